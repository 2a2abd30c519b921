/-
  The walks: each function computes its plain function: printed by a program out of the translation.
-/
import Derived.Test.YtaemgcpcfnbmdaaGreatDoorSc
set_option linter.unusedVariables false
set_option linter.unusedSimpArgs false
set_option maxRecDepth 100000
namespace Go.Proofs.YtaemgcpcfnbmdaaGreatDoor.LG
open Go Go.LG Go.RowKit Go.Value
set_option maxHeartbeats 1000000
open Go.Lib Go.Shelf Go.Proofs
theorem gW {a1 B C D E ad G L w} (H : aL a1 = some ad) (hI : Hp G L w) (af : a1.Glyphs.length ≤ C) (J : Dat au G B a1.Glyphs) (ag : a1.Kerns.length ≤ E) (F : Dat ay G D a1.Kerns) :
    Calls Tryz.prog 53 [agg [slice B a1.Glyphs.length C, slice D a1.Kerns.length E].toArray].toArray w fun e w' => Hp G L w' ∧ e = .returned (bool ad) := by
 refine ac (N := 151) Tryz.func53 z z (Nat.le_of_ble_eq_true z)<|?_
 unfold aL at H
 refine sr fun ca aT=>io hI z z fun k cb K=>aj z<|nl<|aT _ _ _<|sQ fun cd aU=>sr fun ce aV=>fa kK z<|ld K 0 rd z z z<|q_len wO z<|cc z z<|mv z<|bK H fun ah hC H=>js 5 K [(1, pointer (some ⟨k, 0, none⟩)), (18, bool ah)] ?_ fun _ cf ai=>?_
 refine have H:=hC;dC (94 < (a1.Glyphs.length : Int)) (fun x=>?_) fun x=>?_
 refine yK x H fun H=>Sk 4 z z (bY x) z<|bR (bY x) z<|nl<|?_
 cases H
 exact je ⟨z, z, tv⟩ K
 refine nK x H fun H=>fa (hw:=gY z z z (bN x)) kX z<|ld (hw:=gY z z z (bN x)) K 0 qV z z z<|q_len (hw:=gY z z z (bN x)) x6 z<|cc (hw:=gY z z z (bN x)) z z<|b7 (bN x) z<|nl<|?_
 cases H
 exact je ⟨z, z, tv⟩ K
 refine nl<|aV _ _ _<|dC (ah = true) (fun M=>?_) fun M=>?_
 refine yK M H fun H=>wt (vY M)<|sr fun cg aW=>aj z<|nl<|aW _ _ _<|wr<|have aX:=Hp.pick 1 [] ai z;?_
 cases H
 exact rt ⟨_, _, z, z, z⟩ aX
 refine nK M H fun H=>wf (vN M)<|ws<|aU _ _ _<|sQ fun ch aY=>sr fun ci aZ=>aj z<|nl<|aZ _ _ _<|wb<|bK H fun X hC H=>?_
 refine aq (Q := fun e r ds w => match (generalizing := false) X with | (Sum.inl _) => e = .ret ∧ ds = [] ∧ Has [(2, bool false)] r ∧ Hp G (bx k [slice B a1.Glyphs.length C, slice D a1.Kerns.length E] 25 :: L) w ∧ True | (Sum.inr _) => e = .exit 0 ∧ ds = [] ∧ Has [(1, pointer (some ⟨k, 0, none⟩))] r ∧ Hp G (bx k [slice B a1.Glyphs.length C, slice D a1.Kerns.length E] 25 :: L) w ∧ True) ?_ ?_
 refine aB fun I W=>?_
 refine cD.partial_correctness a1 (fun l o => ∀ (r : Rg) (w : World), Has [(1, pointer (some ⟨k, 0, none⟩)), (3, int .i64 l)] r → Hp G (bx k [slice B a1.Glyphs.length C, slice D a1.Kerns.length E] 25 :: L) w → o = X → I r [] w) ?_ 0 _ hC _ _ ⟨rfl, rfl, tv⟩ ai rfl
 intro _ ih l o H r cj h O ho
 rw [ho] at H; clear ho
 rw [h.eq]; clear h
 refine W _ _ _<|sQ fun ck a0=>sr fun cl a2=>mv z<|fa kK z<|ld O 0 rd z z z<|q_len wO z<|aN z z<|nl<|a2 _ _ _<|dC (l < (a1.Glyphs.length : Int)) (fun P=>?_) fun P=>?_
 refine yK P H fun H=>wt (bY P)<|ws<|a0 _ _ _<|sQ fun cm a3=>wb<|sr fun cn a4=>fa kK z<|ld O 0 rd z z z<|mv z<|iK H fun⟨ak, al⟩H=>?_
 obtain ⟨cp, cq, a5, a6, cr, a7⟩ := Dat.get J ao (l) ak al
 obtain ⟨rfl⟩ := dX a6
 refine bP su z a5 z ak al<|ki O l0 z (cs := [int .u8 ((a1.Glyphs.getD (Int.toNat l) ao).Byte), int .i64 ((a1.Glyphs.getD (Int.toNat l) ao).Advance)]) z (fun j v hv => gR.cel _ _ (a7 j v hv))<|aM O nm fun ct cu a8=>fX a8 0 l0 z z z z z z z fun cw an=>nl<|a4 _ _ _<|sQ fun cx a9=>bK H fun ap hC H=>jc .normal an [(1, pointer (some ⟨k, 0, none⟩)), (3, int .i64 l), (64, bool ap)] ?_ fun _ cy ar=>?_
 refine have H:=hC;?_
 refine kZ jD (by kernel_rfl) ?_
 refine have m:=an.drew;wq (fa mr z aK) z<|wq (ld m 0 p6 z z z aK) z<|wq (aN z z aK) z<|wq (mv z aK) z<|dC (((a1.Glyphs.getD (Int.toNat l) ao).Byte) < 32) (fun p=>?_) fun p=>?_
 refine yK p H fun H=>bb z z z (bY p) z z<|bb z z z (bY p) z z<|bb z z z (bY p) z z<|wq (bR (bY p) z aK) z<|wq (mv z aK) z<|bb z z z z z z<|bb z z z z z z<|bb z z z z z z<|wq (bR z z aK) z<|wq (mv z aK) z<|bb z z z z z z<|bb z z z z z z<|bb z z z z z z<|?_
 refine wq (bR z z aK) z<|wq (mv z aK) z<|bb z z z z z z<|bb z z z z z z<|bb z z z z z z<|bb z z z z z z<|bb z z z z z z<|bb z z z z z z<|bb z z z z z z<|bb z z z z z z<|bb z z z z z z<|bb z z z z z z<|bb z z z z z z<|bb z z z z z z<|?_
 refine bb z z z z z z<|bb z z z z z z<|wq (bR z z aK) z<|ed<|?_
 cases H
 exact je ⟨z, z, z, tv⟩ m
 refine nK p H fun H=>wq (fa (hw:=gY z z z (bN p)) mr z aK) z<|wq (ld (hw:=gY z z z (bN p)) m 0 p6 z z z aK) z<|wq (cc (hw:=gY z z z (bN p)) z z aK) z<|wq (b7 (bN p) z aK) z<|wq (mv z aK) z<|dC (125 < ((a1.Glyphs.getD (Int.toNat l) ao).Byte)) (fun q=>?_) fun q=>?_
 refine yK q H fun H=>bb z z z (bY q) z z<|bb z z z (bY q) z z<|bb z z z (bY q) z z<|wq (bR (bY q) z aK) z<|wq (mv z aK) z<|bb z z z z z z<|bb z z z z z z<|bb z z z z z z<|wq (bR z z aK) z<|wq (mv z aK) z<|bb z z z z z z<|bb z z z z z z<|bb z z z z z z<|?_
 refine bb z z z z z z<|bb z z z z z z<|bb z z z z z z<|bb z z z z z z<|bb z z z z z z<|bb z z z z z z<|bb z z z z z z<|bb z z z z z z<|bb z z z z z z<|bb z z z z z z<|bb z z z z z z<|wq (bR z z aK) z<|ed<|?_
 cases H
 exact je ⟨z, z, z, tv⟩ m
 refine nK q H fun H=>wq (fa (hw:=gY z z z (bN q)) oa z aK) z<|wq (ld (hw:=gY z z z (bN q)) m 0 bv z z z aK) z<|wq (aN (hw:=gY z z z (bN q)) z z aK) z<|wq (b7 (bN q) z aK) z<|wq (mv z aK) z<|dC (((a1.Glyphs.getD (Int.toNat l) ao).Advance) < 0) (fun s=>?_) fun s=>?_
 refine yK s H fun H=>bb z z z (bY s) z z<|bb z z z (bY s) z z<|bb z z z (bY s) z z<|wq (bR (bY s) z aK) z<|wq (mv z aK) z<|bb z z z z z z<|bb z z z z z z<|bb z z z z z z<|bb z z z z z z<|bb z z z z z z<|bb z z z z z z<|bb z z z z z z<|bb z z z z z z<|?_
 refine bb z z z z z z<|bb z z z z z z<|bb z z z z z z<|bb z z z z z z<|bb z z z z z z<|bb z z z z z z<|wq (bR z z aK) z<|ed<|?_
 cases H
 exact je ⟨z, z, z, tv⟩ m
 refine nK s H fun H=>wq (fa (hw:=gY z z z (bN s)) oa z aK) z<|wq (ld (hw:=gY z z z (bN s)) m 0 bv z z z aK) z<|wq (cc (hw:=gY z z z (bN s)) z z aK) z<|wq (b7 (bN s) z aK) z<|wq (mv z aK) z<|dC (1000 < ((a1.Glyphs.getD (Int.toNat l) ao).Advance)) (fun i=>?_) fun i=>?_
 refine yK i H fun H=>bb z z z (bY i) z z<|bb z z z (bY i) z z<|bb z z z (bY i) z z<|bb z z z z z z<|bb z z z z z z<|bb z z z z z z<|bb z z z z z z<|bb z z z z z z<|bb z z z z z z<|bb z z z z z z<|bb z z z z z z<|bb z z z z z z<|bb z z z z z z<|?_
 refine bb z z z (bY i) z z<|wq (bR (bY i) z aK) z<|ed<|?_
 cases H
 exact je ⟨z, z, z, tv⟩ m
 refine nK i H fun H=>wq (mv (hw:=gY z z z (bN i)) z aK) z<|wq (cc (hw:=gY z z z (bN i)) z z aK) z<|wq (mv (hw:=gY z z z (bN i)) z aK) z<|dC (0 < l) (fun c=>?_) fun c=>?_
 refine yK c H fun H=>wq (fa (hw:=gY z z z (bY c)) mr z aK) z<|wq (ld (hw:=gY z z z (bY c)) m 0 p6 z z z aK) z<|wq (fa (hw:=gY z z z (bY c)) kK z aK) z<|wq (ld (hw:=gY z z z (bY c)) m 1 rd z z z aK) z<|wq (mv (hw:=gY z z z (bY c)) z aK) z<|wq (dl (hw:=gY z z z (bY c)) z z aK) z<|iK H fun⟨av, aw⟩H=>?_
 obtain ⟨cz, cA, bc, bd, cB, be⟩ := Dat.get J ao (ax (l - 1)) av aw
 obtain ⟨rfl⟩ := dX bd
 refine wq (bP (hw:=gY z z z (bY c)) su z bc z av aw aK) z<|wq (lf (hw:=gY z z z (bY c)) mr z z aK) z<|wq (fO (hw:=gY z z z (bY c)) m p6 z (gR.cel _ _ (be 0 _ z)) aK) z<|wq (eI (hw:=gY z z z (bY c)) z z aK) z<|wq (bR (hw:=gY z z z (bN i)) (bY c) z aK) z<|wq (b7 (bN i) z aK) z<|ed<|?_
 cases H
 exact je ⟨z, z, z, tv⟩ m
 refine nK c H fun H=>bb z z z (bN c) z z<|bb z z z (bN c) z z<|bb z z z (bN c) z z<|bb z z z (bN c) z z<|bb z z z (bN c) z z<|bb z z z (bN c) z z<|bb z z z (bN c) z z<|bb z z z (bN c) z z<|bb z z z (bN c) z z<|bb z z z (bN c) z z<|wq (b7 (hw:=gY z z z (bN i)) (bN c) z aK) z<|wq (b7 (bN i) z aK) z<|ed<|?_
 cases H
 exact je ⟨z, z, z, tv⟩ m
 refine a9 _ _ _<|dC (ap = true) (fun R=>?_) fun R=>?_
 refine yK R H fun H=>wt (vY R)<|sr fun cC bf=>aj z<|nl<|bf _ _ _<|wr<|have bg:=Hp.pick 2 [1] ar z;?_
 cases H
 exact ⟨z, z, ⟨z, tv⟩, bg, tv⟩
 exact nK R H fun H=>wf (vN R)<|ws<|a3 _ _ _<|ae<|mv z<|ba z z<|aj z<|nl<|have bh:=Hp.pick 2 [1] ar z;ih _ _ H _ _ ⟨z, z, tv⟩ bh z
 refine nK P H fun H=>wf (bN P)<|wx<|?_
 cases H
 exact ⟨z, z, ⟨z, tv⟩, O, tv⟩
 rcases X with _ | _
 rintro e r ds cE ⟨rfl, rfl, h, bi, _⟩
 rw [h.eq]; clear h
 refine have bj:=Hp.pick 1 [] bi z;?_
 cases H
 exact rt ⟨_, _, z, z, z⟩ bj
 rintro e r ds cF ⟨rfl, rfl, h, bk, _⟩
 rw [h.eq]; clear h
 refine aY _ _ _<|sQ fun cG bl=>sr fun cH bm=>aj z<|nl<|bm _ _ _<|wb<|bK H fun Y hC H=>?_
 refine aq (Q := fun e r ds w => match (generalizing := false) Y with | (Sum.inl _) => e = .ret ∧ ds = [] ∧ Has [(2, bool false)] r ∧ Hp G (bx k [slice B a1.Glyphs.length C, slice D a1.Kerns.length E] 25 :: L) w ∧ True | (Sum.inr _) => e = .exit 2 ∧ ds = [] ∧ Has [] r ∧ Hp G (bx k [slice B a1.Glyphs.length C, slice D a1.Kerns.length E] 25 :: L) w ∧ True) ?_ ?_
 refine aB fun I W=>?_
 refine co.partial_correctness a1 (fun g o => ∀ (r : Rg) (w : World), Has [(1, pointer (some ⟨k, 0, none⟩)), (5, int .i64 g)] r → Hp G (bx k [slice B a1.Glyphs.length C, slice D a1.Kerns.length E] 25 :: L) w → o = Y → I r [] w) ?_ 0 _ hC _ _ ⟨rfl, rfl, tv⟩ bk rfl
 intro _ ih g o H r cI h S ho
 rw [ho] at H; clear ho
 rw [h.eq]; clear h
 refine W _ _ _<|sQ fun cJ bn=>sr fun cK bo=>mv z<|fa kX z<|ld S 0 qV z z z<|q_len x6 z<|aN z z<|nl<|bo _ _ _<|dC (g < (a1.Kerns.length : Int)) (fun T=>?_) fun T=>?_
 refine yK T H fun H=>wt (bY T)<|ws<|bn _ _ _<|sQ fun cL bp=>wb<|sr fun cM bq=>fa kX z<|ld S 0 qV z z z<|mv z<|iK H fun⟨az, aA⟩H=>?_
 obtain ⟨cN, cO, br, bs, cP, bt⟩ := Dat.get F am (g) az aA
 obtain ⟨rfl⟩ := dB bs
 refine bP s8 z br z az aA<|ki S nS z (cs := [int .u8 ((a1.Kerns.getD (Int.toNat g) am).Left), int .u8 ((a1.Kerns.getD (Int.toNat g) am).Right), int .i64 ((a1.Kerns.getD (Int.toNat g) am).By)]) z (fun j v hv => gR.cel _ _ (bt j v hv))<|aM S wi fun bu cQ bw=>fX bw 0 nS z z z z z z z fun cR Z=>nl<|bq _ _ _<|sr fun cS bz=>d9 Z 1 fw z z z z<|fa mU z<|ld Z 0 p6 z z z<|bK H fun aC bB H=>cv Ci (gS bB Z af J ag F) z z fun cT aa=>aj z<|nl<|?_
 refine bz _ _ _<|sr fun cU bC=>d9 aa 1 fw z z z z<|fa pn z<|ld aa 0 p6 z z z<|bK H fun bD bE H=>cv Ci (gS bE aa af J ag F) z z fun cV aD=>aj z<|nl<|bC _ _ _<|sQ fun cW bF=>sQ fun cX bG=>bK H fun aE hC H=>jc .normal aD [(1, pointer (some ⟨k, 0, none⟩)), (5, int .i64 g), (6, pointer (some ⟨bu, 0, none⟩)), (112, bool aE)] ?_ fun _ cY ab=>?_
 refine have H:=hC;?_
 refine kZ jD (by kernel_rfl) ?_
 refine have y:=aD.drew;wq (mv z aK) z<|wq (aN z z aK) z<|wq (mv z aK) z<|dC (aC < 0) (fun A=>?_) fun A=>?_
 refine yK A H fun H=>bb z z z (bY A) z z<|bb z z z (bY A) z z<|wq (bR (bY A) z aK) z<|wq (mv z aK) z<|bb z z z z z z<|bb z z z z z z<|bb z z z z z z<|wq (bR z z aK) z<|wq (mv z aK) z<|bb z z z z z z<|bb z z z z z z<|bb z z z z z z<|wq (bR z z aK) z<|?_
 refine wq (mv z aK) z<|bb z z z z z z<|bb z z z z z z<|bb z z z z z z<|bb z z z z z z<|bb z z z z z z<|bb z z z z z z<|bb z z z z z z<|bb z z z z z z<|bb z z z z z z<|bb z z z z z z<|wq (bR z z aK) z<|ed<|?_
 cases H
 exact je ⟨z, z, z, z, tv⟩ y
 refine nK A H fun H=>wq (mv (hw:=gY z z z (bN A)) z aK) z<|wq (aN (hw:=gY z z z (bN A)) z z aK) z<|wq (b7 (bN A) z aK) z<|wq (mv z aK) z<|dC (bD < 0) (fun t=>?_) fun t=>?_
 refine yK t H fun H=>bb z z z (bY t) z z<|bb z z z (bY t) z z<|bb z z z (bY t) z z<|wq (bR (bY t) z aK) z<|wq (mv z aK) z<|bb z z z z z z<|bb z z z z z z<|bb z z z z z z<|wq (bR z z aK) z<|wq (mv z aK) z<|bb z z z z z z<|bb z z z z z z<|bb z z z z z z<|?_
 refine bb z z z z z z<|bb z z z z z z<|bb z z z z z z<|bb z z z z z z<|bb z z z z z z<|bb z z z z z z<|bb z z z z z z<|wq (bR z z aK) z<|ed<|?_
 cases H
 exact je ⟨z, z, z, z, tv⟩ y
 refine nK t H fun H=>wq (fa (hw:=gY z z z (bN t)) o2 z aK) z<|wq (ld (hw:=gY z z z (bN t)) y 0 bv z z z aK) z<|wq (aN (hw:=gY z z z (bN t)) z z aK) z<|wq (b7 (bN t) z aK) z<|wq (mv z aK) z<|dC (((a1.Kerns.getD (Int.toNat g) am).By) < (-1000)) (fun u=>?_) fun u=>?_
 refine yK u H fun H=>bb z z z (bY u) z z<|bb z z z (bY u) z z<|bb z z z (bY u) z z<|wq (bR (bY u) z aK) z<|wq (mv z aK) z<|bb z z z z z z<|bb z z z z z z<|bb z z z z z z<|bb z z z z z z<|bb z z z z z z<|bb z z z z z z<|bb z z z z z z<|bb z z z z z z<|?_
 refine bb z z z z z z<|bb z z z z z z<|wq (bR z z aK) z<|ed<|?_
 cases H
 exact je ⟨z, z, z, z, tv⟩ y
 refine nK u H fun H=>wq (fa (hw:=gY z z z (bN u)) o2 z aK) z<|wq (ld (hw:=gY z z z (bN u)) y 0 bv z z z aK) z<|wq (cc (hw:=gY z z z (bN u)) z z aK) z<|wq (b7 (bN u) z aK) z<|wq (mv z aK) z<|dC (1000 < ((a1.Kerns.getD (Int.toNat g) am).By)) (fun d=>?_) fun d=>?_
 refine yK d H fun H=>bb z z z (bY d) z z<|bb z z z (bY d) z z<|bb z z z (bY d) z z<|bb z z z (bY d) z z<|bb z z z (bY d) z z<|bb z z z (bY d) z z<|bb z z z (bY d) z z<|bb z z z (bY d) z z<|bb z z z (bY d) z z<|bb z z z (bY d) z z<|wq (bR (bY d) z aK) z<|ed<|?_
 cases H
 exact je ⟨z, z, z, z, tv⟩ y
 refine nK d H fun H=>wq (fa (hw:=gY z z z (bN d)) kK z aK) z<|wq (ld (hw:=gY z z z (bN d)) y 1 rd z z z aK) z<|wq (mv (hw:=gY z z z (bN d)) z aK) z<|iK H fun⟨aF, aG⟩H=>?_
 obtain ⟨cZ, c0, bH, bI, c1, bJ⟩ := Dat.get J ao (aC) aF aG
 obtain ⟨rfl⟩ := dX bI
 refine wq (bP (hw:=gY z z z (bN d)) su z bH z aF aG aK) z<|wq (lf (hw:=gY z z z (bN d)) oa z z aK) z<|wq (fO (hw:=gY z z z (bN d)) y bv z (gR.cel _ _ (bJ 1 _ z)) aK) z<|wq (fa (hw:=gY z z z (bN d)) o2 z aK) z<|wq (ld (hw:=gY z z z (bN d)) y 0 bv z z z aK) z<|wq (ba (hw:=gY z z z (bN d)) z z aK) z<|wq (aN (hw:=gY z z z (bN d)) z z aK) z<|wq (b7 (bN d) z aK) z<|ed<|?_
 cases H
 exact je ⟨z, z, z, z, tv⟩ y
 refine bG _ _ _<|dC (aE = true) (fun U=>?_) fun U=>?_
 refine yK U H fun H=>wt (vY U)<|sr fun c2 bL=>aj z<|nl<|bL _ _ _<|wr<|have bM:=Hp.pick 2 [1] ab z;?_
 cases H
 exact ⟨z, z, ⟨z, tv⟩, bM, tv⟩
 refine nK U H fun H=>wf (vN U)<|ws<|bF _ _ _<|sQ fun c4 bO=>bK H fun aH hC H=>jc .normal ab [(1, pointer (some ⟨k, 0, none⟩)), (5, int .i64 g), (150, bool aH)] ?_ fun _ c5 aI=>?_
 refine have H:=hC;?_
 refine kZ jD (by kernel_rfl) ?_
 refine have n:=ab.drew;wq (mv z aK) z<|wq (cc z z aK) z<|wq (mv z aK) z<|dC (0 < g) (fun a=>?_) fun a=>?_
 refine yK a H fun H=>wq (fa (hw:=gY z z z (bY a)) mU z aK) z<|wq (ld (hw:=gY z z z (bY a)) n 0 p6 z z z aK) z<|wq (fa (hw:=gY z z z (bY a)) kX z aK) z<|wq (ld (hw:=gY z z z (bY a)) n 1 qV z z z aK) z<|wq (mv (hw:=gY z z z (bY a)) z aK) z<|wq (dl (hw:=gY z z z (bY a)) z z aK) z<|iK H fun⟨aJ, aO⟩H=>?_
 obtain ⟨c6, c8, bQ, bS, c9, bT⟩ := Dat.get F am (ax (g - 1)) aJ aO
 obtain ⟨rfl⟩ := dB bS
 refine wq (bP (hw:=gY z z z (bY a)) s8 z bQ z aJ aO aK) z<|wq (lf (hw:=gY z z z (bY a)) mU z z aK) z<|wq (fO (hw:=gY z z z (bY a)) n p6 z (gR.cel _ _ (bT 0 _ z)) aK) z<|wq (aN (hw:=gY z z z (bY a)) z z aK) z<|wq (mv (hw:=gY z z z (bY a)) z aK) z<|dC (((a1.Kerns.getD (Int.toNat g) am).Left) < ((a1.Kerns.getD (Int.toNat (ax (g - 1))) am).Left)) (fun b=>?_) fun b=>?_
 refine yK b H fun H=>bb z z z (bY b) z z<|bb z z z (bY b) z z<|bb z z z (bY b) z z<|bb z z z (bY b) z z<|bb z z z (bY b) z z<|bb z z z (bY b) z z<|bb z z z (bY b) z z<|bb z z z (bY b) z z<|bb z z z (bY b) z z<|bb z z z (bY b) z z<|bb z z z (bY b) z z<|bb z z z z z z<|bb z z z z z z<|?_
 refine bb z z z z z z<|bb z z z z z z<|bb z z z z z z<|bb z z z z z z<|bb z z z z z z<|bb z z z z z z<|bb z z z z z z<|bb z z z z z z<|bb z z z (bY b) z z<|wq (bR (hw:=gY z z z (bY a)) (bY b) z aK) z<|wq (bR (bY a) z aK) z<|ed<|?_
 cases H
 exact je ⟨z, z, z, tv⟩ n
 refine nK b H fun H=>wq (fa (hw:=gY z z z (bN b)) mU z aK) z<|wq (ld (hw:=gY z z z (bN b)) n 0 p6 z z z aK) z<|wq (fa (hw:=gY z z z (bN b)) kX z aK) z<|wq (ld (hw:=gY z z z (bN b)) n 1 qV z z z aK) z<|wq (mv (hw:=gY z z z (bN b)) z aK) z<|wq (dl (hw:=gY z z z (bN b)) z z aK) z<|iK H fun⟨aP, aQ⟩H=>?_
 obtain ⟨da, db, bU, bV, dc, bW⟩ := Dat.get F am (ax (g - 1)) aP aQ
 obtain ⟨rfl⟩ := dB bV
 refine wq (bP (hw:=gY z z z (bN b)) s8 z bU z aP aQ aK) z<|wq (lf (hw:=gY z z z (bN b)) mU z z aK) z<|wq (fO (hw:=gY z z z (bN b)) n p6 z (gR.cel _ _ (bW 0 _ z)) aK) z<|wq (bA (hw:=gY z z z (bN b)) z z aK) z<|wq (mv (hw:=gY z z z (bN b)) z aK) z<|dC (((a1.Kerns.getD (Int.toNat g) am).Left) = ((a1.Kerns.getD (Int.toNat (ax (g - 1))) am).Left)) (fun f=>?_) fun f=>?_
 refine yK f H fun H=>wq (fa (hw:=gY z z z (bY f)) pn z aK) z<|wq (ld (hw:=gY z z z (bY f)) n 0 p6 z z z aK) z<|wq (fa (hw:=gY z z z (bY f)) kX z aK) z<|wq (ld (hw:=gY z z z (bY f)) n 1 qV z z z aK) z<|wq (mv (hw:=gY z z z (bY f)) z aK) z<|wq (dl (hw:=gY z z z (bY f)) z z aK) z<|iK H fun⟨aR, aS⟩H=>?_
 obtain ⟨dd, de, bX, bZ, df, b0⟩ := Dat.get F am (ax (g - 1)) aR aS
 obtain ⟨rfl⟩ := dB bZ
 refine wq (bP (hw:=gY z z z (bY f)) s8 z bX z aR aS aK) z<|wq (lf (hw:=gY z z z (bY f)) pn z z aK) z<|wq (fO (hw:=gY z z z (bY f)) n p6 z (gR.cel _ _ (b0 1 _ z)) aK) z<|wq (eI (hw:=gY z z z (bY f)) z z aK) z<|wq (bR (hw:=gY z z z (bN b)) (bY f) z aK) z<|wq (b7 (hw:=gY z z z (bY a)) (bN b) z aK) z<|wq (bR (bY a) z aK) z<|ed<|?_
 cases H
 exact je ⟨z, z, z, tv⟩ n
 refine nK f H fun H=>bb z z z (bN f) z z<|bb z z z (bN f) z z<|bb z z z (bN f) z z<|bb z z z (bN f) z z<|bb z z z (bN f) z z<|bb z z z (bN f) z z<|bb z z z (bN f) z z<|bb z z z (bN f) z z<|bb z z z (bN f) z z<|bb z z z (bN f) z z<|wq (b7 (hw:=gY z z z (bN b)) (bN f) z aK) z<|wq (b7 (hw:=gY z z z (bY a)) (bN b) z aK) z<|wq (bR (bY a) z aK) z<|?_
 refine ed<|?_
 cases H
 exact je ⟨z, z, z, tv⟩ n
 refine nK a H fun H=>bb z z z (bN a) z z<|bb z z z (bN a) z z<|bb z z z (bN a) z z<|bb z z z (bN a) z z<|bb z z z (bN a) z z<|bb z z z (bN a) z z<|bb z z z (bN a) z z<|bb z z z (bN a) z z<|bb z z z (bN a) z z<|bb z z z (bN a) z z<|bb z z z (bN a) z z<|bb z z z z z z<|bb z z z z z z<|?_
 refine bb z z z z z z<|bb z z z z z z<|bb z z z z z z<|bb z z z z z z<|bb z z z z z z<|bb z z z z z z<|bb z z z z z z<|bb z z z z z z<|bb z z z z z z<|bb z z z z z z<|bb z z z z z z<|bb z z z z z z<|bb z z z z z z<|bb z z z z z z<|?_
 refine bb z z z z z z<|bb z z z z z z<|bb z z z z z z<|bb z z z z z z<|bb z z z z z z<|bb z z z z z z<|bb z z z (bN a) z z<|wq (b7 (bN a) z aK) z<|ed<|?_
 cases H
 exact je ⟨z, z, z, tv⟩ n
 refine bO _ _ _<|dC (aH = true) (fun V=>?_) fun V=>?_
 refine yK V H fun H=>wt (vY V)<|sr fun dg b1=>aj z<|nl<|b1 _ _ _<|wr<|have b2:=Hp.pick 2 [1] aI z;?_
 cases H
 exact ⟨z, z, ⟨z, tv⟩, b2, tv⟩
 exact nK V H fun H=>wf (vN V)<|ws<|bp _ _ _<|ae<|mv z<|ba z z<|aj z<|nl<|have b3:=Hp.pick 2 [1] aI z;ih _ _ H _ _ ⟨z, z, tv⟩ b3 z
 refine nK T H fun H=>wf (bN T)<|wx<|?_
 cases H
 exact ⟨z, z, trivial, S, tv⟩
 rcases Y with _ | _
 rintro e r ds dh ⟨rfl, rfl, h, b4, _⟩
 rw [h.eq]; clear h
 refine have b5:=Hp.pick 1 [] b4 z;?_
 cases H
 exact rt ⟨_, _, z, z, z⟩ b5
 rintro e r ds di ⟨rfl, rfl, h, b6, _⟩
 rw [h.eq]; clear h
 refine bl _ _ _<|sr fun dj b8=>aj z<|nl<|b8 _ _ _<|wr<|have b9:=Hp.pick 1 [] b6 z;?_
 cases H
 exact rt ⟨_, _, z, z, z⟩ b9
theorem l2 {a1 m n P G L w} (H : gC a1 = some P) (hI : Hp G L w) (a4 : a1.Keep.length ≤ n) (R : Dat Kd.str G m a1.Keep) :
    Calls Tryz.prog 54 [agg [int .i64 a1.Before, int .i64 a1.Behind, slice m a1.Keep.length n].toArray].toArray w fun e w' => Hp G L w' ∧ e = .returned (bool P) := by
 refine ac (N := 77) Tryz.func54 z z (Nat.le_of_ble_eq_true z)<|?_
 unfold gC at H
 refine sr fun K6 ai=>io hI z z fun c a6 q=>aj z<|nl<|ai _ _ _<|sQ fun a7 ak=>sr fun a8 al=>fa t6 z<|ld q 0 bv z z z<|aN z z<|mv z<|bK H fun S hC H=>js 4 q [(1, pointer (some ⟨c, 0, none⟩)), (13, bool S)] ?_ fun _ a9 B=>?_
 refine have H:=hC;dC (a1.Before < 1) (fun f=>?_) fun f=>?_
 refine yK f H fun H=>Sk 3 z z (bY f) z<|bR (bY f) z<|nl<|?_
 cases H
 exact je ⟨z, z, tv⟩ q
 refine nK f H fun H=>fa (hw:=gY z z z (bN f)) t6 z<|ld (hw:=gY z z z (bN f)) q 0 bv z z z<|cc (hw:=gY z z z (bN f)) z z<|b7 (bN f) z<|nl<|?_
 cases H
 exact je ⟨z, z, tv⟩ q
 refine mv z<|bK H fun T hC H=>js 4 B [(1, pointer (some ⟨c, 0, none⟩)), (18, bool T)] ?_ fun _ bb C=>?_
 refine have H:=hC;dC (S = true) (fun g=>?_) fun g=>?_
 refine yK g H fun H=>Sk 3 z z (vY g) z<|bR (vY g) z<|nl<|?_
 cases H
 exact je ⟨z, z, tv⟩ B
 refine nK g H fun H=>fa (hw:=gY z z z (vN g)) tS z<|ld (hw:=gY z z z (vN g)) B 0 bv z z z<|aN (hw:=gY z z z (vN g)) z z<|b7 (vN g) z<|nl<|?_
 cases H
 exact je ⟨z, z, tv⟩ B
 refine mv z<|bK H fun U hC H=>js 4 C [(1, pointer (some ⟨c, 0, none⟩)), (23, bool U)] ?_ fun _ bc D=>?_
 refine have H:=hC;dC (T = true) (fun h=>?_) fun h=>?_
 refine yK h H fun H=>Sk 3 z z (vY h) z<|bR (vY h) z<|nl<|?_
 cases H
 exact je ⟨z, z, tv⟩ C
 refine nK h H fun H=>fa (hw:=gY z z z (vN h)) tS z<|ld (hw:=gY z z z (vN h)) C 0 bv z z z<|cc (hw:=gY z z z (vN h)) z z<|b7 (vN h) z<|nl<|?_
 cases H
 exact je ⟨z, z, tv⟩ C
 refine mv z<|bK H fun V hC H=>js 5 D [(1, pointer (some ⟨c, 0, none⟩)), (29, bool V)] ?_ fun _ bd W=>?_
 refine have H:=hC;dC (U = true) (fun d=>?_) fun d=>?_
 refine yK d H fun H=>Sk 4 z z (vY d) z<|bR (vY d) z<|nl<|?_
 cases H
 exact je ⟨z, z, tv⟩ D
 refine nK d H fun H=>fa (hw:=gY z z z (vN d)) ow z<|ld (hw:=gY z z z (vN d)) D 0 ul z z z<|q_len (hw:=gY z z z (vN d)) zq z<|cc (hw:=gY z z z (vN d)) z z<|b7 (vN d) z<|nl<|?_
 cases H
 exact je ⟨z, z, tv⟩ D
 refine nl<|al _ _ _<|dC (V = true) (fun s=>?_) fun s=>?_
 refine yK s H fun H=>wt (vY s)<|sr fun be am=>aj z<|nl<|am _ _ _<|wr<|have an:=Hp.pick 1 [] W z;?_
 cases H
 exact rt ⟨_, _, z, z, z⟩ an
 refine nK s H fun H=>wf (vN s)<|ws<|ak _ _ _<|sQ fun bf ao=>sr fun bg ap=>aj z<|nl<|ap _ _ _<|wb<|bK H fun F hC H=>?_
 refine aq (Q := fun e r ds w => match (generalizing := false) F with | (Sum.inl _) => e = .ret ∧ ds = [] ∧ Has [(2, bool false)] r ∧ Hp G (bx c [int .i64 a1.Before, int .i64 a1.Behind, slice m a1.Keep.length n] 28 :: L) w ∧ True | (Sum.inr _) => e = .exit 0 ∧ ds = [] ∧ Has [] r ∧ Hp G (bx c [int .i64 a1.Before, int .i64 a1.Behind, slice m a1.Keep.length n] 28 :: L) w ∧ True) ?_ ?_
 refine aB fun I E=>?_
 refine eF.partial_correctness a1 (fun a o => ∀ (r : Rg) (w : World), Has [(1, pointer (some ⟨c, 0, none⟩)), (3, int .i64 a)] r → Hp G (bx c [int .i64 a1.Before, int .i64 a1.Behind, slice m a1.Keep.length n] 28 :: L) w → o = F → I r [] w) ?_ 0 _ hC _ _ ⟨rfl, rfl, tv⟩ W rfl
 intro _ ih a o H r bh b p ho
 rw [ho] at H; clear ho
 rw [b.eq]; clear b
 refine E _ _ _<|sQ fun bi ar=>sr fun bj au=>mv z<|fa ow z<|ld p 0 ul z z z<|q_len zq z<|aN z z<|nl<|au _ _ _<|dC (a < (a1.Keep.length : Int)) (fun t=>?_) fun t=>?_
 refine yK t H fun H=>wt (bY t)<|ws<|ar _ _ _<|sQ fun bk av=>wb<|sr fun bl aw=>fa ow z<|ld p 0 ul z z z<|mv z<|iK H fun⟨X, Y⟩H=>?_
 obtain ⟨bm, bn, ax, ay, bo, az⟩ := Dat.get R (⟨#[]⟩ : ByteArray) (a) X Y
 obtain rfl := ay
 refine bP zj z ax z X Y<|fO p qU z (gR.cel _ _ (az 0 _ z))<|aj z<|nl<|aw _ _ _<|sQ fun bp aA=>sr fun bq aC=>mv z<|cX fA z<|dW z z<|mv z<|bK H fun Z hC H=>js 4 p [(1, pointer (some ⟨c, 0, none⟩)), (3, int .i64 a), (4, string (a1.Keep.getD (Int.toNat a) (⟨#[]⟩ : ByteArray))), (49, bool Z)] ?_ fun _ br J=>?_
 refine have H:=hC;dC (¬ ((a1.Keep.getD (Int.toNat a) (⟨#[]⟩ : ByteArray)).size : Int) = 2) (fun i=>?_) fun i=>?_
 refine yK i H fun H=>Sk 3 z z (bY i) z<|bR (bY i) z<|nl<|?_
 cases H
 exact je ⟨z, z, z, z, tv⟩ p
 refine nK i H fun H=>mv (hw:=gY z z z (bN i)) z<|iK H fun⟨aD, aE⟩H=>gc (hw:=gY z z z (bN i)) fA z z aD aE z<|aN (hw:=gY z z z (bN i)) z z<|b7 (bN i) z<|nl<|?_
 cases H
 exact je ⟨z, z, z, z, tv⟩ p
 refine mv z<|bK H fun aa hC H=>js 4 J [(1, pointer (some ⟨c, 0, none⟩)), (3, int .i64 a), (4, string (a1.Keep.getD (Int.toNat a) (⟨#[]⟩ : ByteArray))), (54, bool aa)] ?_ fun _ bs K=>?_
 refine have H:=hC;dC (Z = true) (fun j=>?_) fun j=>?_
 refine yK j H fun H=>Sk 3 z z (vY j) z<|bR (vY j) z<|nl<|?_
 cases H
 exact je ⟨z, z, z, z, tv⟩ J
 refine nK j H fun H=>mv (hw:=gY z z z (vN j)) z<|iK H fun⟨aF, aG⟩H=>gc (hw:=gY z z z (vN j)) fA z z aF aG z<|cc (hw:=gY z z z (vN j)) z z<|b7 (vN j) z<|nl<|?_
 cases H
 exact je ⟨z, z, z, z, tv⟩ J
 refine mv z<|bK H fun ab hC H=>js 4 K [(1, pointer (some ⟨c, 0, none⟩)), (3, int .i64 a), (4, string (a1.Keep.getD (Int.toNat a) (⟨#[]⟩ : ByteArray))), (59, bool ab)] ?_ fun _ bt M=>?_
 refine have H:=hC;dC (aa = true) (fun k=>?_) fun k=>?_
 refine yK k H fun H=>Sk 3 z z (vY k) z<|bR (vY k) z<|nl<|?_
 cases H
 exact je ⟨z, z, z, z, tv⟩ K
 refine nK k H fun H=>mv (hw:=gY z z z (vN k)) z<|iK H fun⟨aH, aI⟩H=>gc (hw:=gY z z z (vN k)) fA z z aH aI z<|aN (hw:=gY z z z (vN k)) z z<|b7 (vN k) z<|nl<|?_
 cases H
 exact je ⟨z, z, z, z, tv⟩ K
 refine mv z<|bK H fun ad hC H=>js 4 M [(1, pointer (some ⟨c, 0, none⟩)), (3, int .i64 a), (4, string (a1.Keep.getD (Int.toNat a) (⟨#[]⟩ : ByteArray))), (64, bool ad)] ?_ fun _ bu af=>?_
 refine have H:=hC;dC (ab = true) (fun l=>?_) fun l=>?_
 refine yK l H fun H=>Sk 3 z z (vY l) z<|bR (vY l) z<|nl<|?_
 cases H
 exact je ⟨z, z, z, z, tv⟩ M
 refine nK l H fun H=>mv (hw:=gY z z z (vN l)) z<|iK H fun⟨aJ, aK⟩H=>gc (hw:=gY z z z (vN l)) fA z z aJ aK z<|cc (hw:=gY z z z (vN l)) z z<|b7 (vN l) z<|nl<|?_
 cases H
 exact je ⟨z, z, z, z, tv⟩ M
 refine nl<|aC _ _ _<|dC (ad = true) (fun u=>?_) fun u=>?_
 refine yK u H fun H=>wt (vY u)<|sr fun bw aL=>aj z<|nl<|aL _ _ _<|wr<|?_
 cases H
 exact ⟨z, z, ⟨z, tv⟩, af, tv⟩
 refine nK u H fun H=>wf (vN u)<|ws<|aA _ _ _<|sr fun bz aM=>aj z<|nl<|aM _ _ _<|wb<|bK H fun O hC H=>?_
 refine aq (Q := fun e r ds w => match (generalizing := false) O with | (Sum.inl _) => e = .ret ∧ ds = [] ∧ Has [(2, bool false)] r ∧ Hp G (bx c [int .i64 a1.Before, int .i64 a1.Behind, slice m a1.Keep.length n] 28 :: L) w ∧ True | (Sum.inr _) => e = .exit 2 ∧ ds = [] ∧ Has [(1, pointer (some ⟨c, 0, none⟩)), (3, int .i64 a)] r ∧ Hp G (bx c [int .i64 a1.Before, int .i64 a1.Behind, slice m a1.Keep.length n] 28 :: L) w ∧ True) ?_ ?_
 refine aB fun I E=>?_
 refine dR.partial_correctness a1 a (fun v o => ∀ (r : Rg) (w : World), Has [(1, pointer (some ⟨c, 0, none⟩)), (3, int .i64 a), (4, string (a1.Keep.getD (Int.toNat a) (⟨#[]⟩ : ByteArray))), (5, int .i64 v)] r → Hp G (bx c [int .i64 a1.Before, int .i64 a1.Behind, slice m a1.Keep.length n] 28 :: L) w → o = O → I r [] w) ?_ 0 _ hC _ _ ⟨rfl, rfl, rfl, rfl, tv⟩ af rfl
 intro _ ih v o H r bA b x ho
 rw [ho] at H; clear ho
 rw [b.eq]; clear b
 refine E _ _ _<|sQ fun bB aO=>sr fun bC aP=>mv z<|mv z<|aN z z<|nl<|aP _ _ _<|dC (v < a) (fun y=>?_) fun y=>?_
 refine yK y H fun H=>wt (bY y)<|ws<|aO _ _ _<|sQ fun bD aQ=>wb<|sr fun bE aR=>fa ow z<|ld x 0 ul z z z<|mv z<|iK H fun⟨ag, ah⟩H=>?_
 obtain ⟨bF, bG, aS, aT, bH, aU⟩ := Dat.get R (⟨#[]⟩ : ByteArray) (v) ag ah
 obtain rfl := aT
 refine bP zj z aS z ag ah<|fO x qU z (gR.cel _ _ (aU 0 _ z))<|mv z<|uD z z<|nl<|aR _ _ _<|dC ((a1.Keep.getD (Int.toNat v) (⟨#[]⟩ : ByteArray)) = (a1.Keep.getD (Int.toNat a) (⟨#[]⟩ : ByteArray))) (fun A=>?_) fun A=>?_
 refine yK A H fun H=>wt (bY A)<|sr fun bI aV=>aj z<|nl<|aV _ _ _<|wr<|?_
 cases H
 exact ⟨z, z, ⟨z, tv⟩, x, tv⟩
 exact nK A H fun H=>wf (bN A)<|ws<|aQ _ _ _<|ae<|mv z<|ba z z<|aj z<|nl<|ih _ _ H _ _ ⟨z, z, z, z, tv⟩ x z
 refine nK y H fun H=>wf (bN y)<|wx<|?_
 cases H
 exact ⟨z, z, ⟨z, z, tv⟩, x, tv⟩
 rcases O with _ | _
 rintro e r ds bJ ⟨rfl, rfl, b, aW, _⟩
 rw [b.eq]; clear b
 cases H
 exact ⟨z, z, ⟨z, tv⟩, aW, tv⟩
 rintro e r ds bL ⟨rfl, rfl, b, aX, _⟩
 rw [b.eq]; clear b
 exact av _ _ _<|ae<|mv z<|ba z z<|aj z<|nl<|ih _ _ H _ _ ⟨z, z, tv⟩ aX z
 refine nK t H fun H=>wf (bN t)<|wx<|?_
 cases H
 exact ⟨z, z, trivial, p, tv⟩
 rcases F with _ | _
 rintro e r ds bM ⟨rfl, rfl, b, aY, _⟩
 rw [b.eq]; clear b
 refine have aZ:=Hp.pick 1 [] aY z;?_
 cases H
 exact rt ⟨_, _, z, z, z⟩ aZ
 rintro e r ds bO ⟨rfl, rfl, b, a0, _⟩
 rw [b.eq]; clear b
 refine ao _ _ _<|sr fun bQ a2=>aj z<|nl<|a2 _ _ _<|wr<|have a3:=Hp.pick 1 [] a0 z;?_
 cases H
 exact rt ⟨_, _, z, z, z⟩ a3
theorem qc {a1 a10 y t a17 d b q a a22 O P Q R S T r s U G L w} (H : jk a1 a10 y t a17 d b q a a22 = some U) (hI : Hp G L w) (ai : a1.Glyphs.length ≤ P) (ak : Dat au G O a1.Glyphs) (al : a1.Kerns.length ≤ R) (am : Dat ay G Q a1.Kerns) (an : a10.Keep.length ≤ T) (ao : Dat Kd.str G S a10.Keep) (ap : a22.length ≤ s) (aq : Dat bm G r a22) :
    Calls Tryz.prog 27 [agg [slice O a1.Glyphs.length P, slice Q a1.Kerns.length R].toArray, agg [int .i64 a10.Before, int .i64 a10.Behind, slice S a10.Keep.length T].toArray, string y, int .i64 t, int .i64 a17, int .i64 d, int .i64 b, int .i64 q, int .i64 a, slice r a22.length s].toArray w fun e w' => Hp G L w' ∧ e = .returned (bool U) := by
 refine ac (N := 78) Tryz.func27 z z (Nat.le_of_ble_eq_true z)<|?_
 unfold jk at H
 refine sr fun aO ar=>io hI z z fun aP aQ av=>io av z z fun aR aS V=>aj z<|nl<|ar _ _ _<|sQ fun aT aw=>sr fun aU ax=>d9 V 1 fw z z z z<|bK H fun az aA H=>cv BR (gW aA V ai ak al am) z z fun aV v=>be z<|mv z<|bK H fun W hC H=>?_
 refine js 4 v [(2, string y), (3, int .i64 t), (4, int .i64 a17), (5, int .i64 d), (6, int .i64 b), (7, int .i64 q), (8, int .i64 a), (9, slice r a22.length s), (28, bool W)] ?_ fun _ aW A=>?_
 refine have H:=hC;dC ((!az) = true) (fun f=>?_) fun f=>?_
 refine yK f H fun H=>Sk 3 z z (vY f) z<|bR (vY f) z<|nl<|?_
 cases H
 exact je ⟨z, z, z, z, z, z, z, z, z, tv⟩ v
 refine nK f H fun H=>d9 (hw:=gY z z z (vN f)) v 0 jT z z z z<|bK H fun aX aB H=>cv (hw:=gY z z z (vN f)) D1 (l2 aB v an ao) z z fun aY aC=>be (hw:=gY z z z (vN f)) z<|b7 (vN f) z<|nl<|?_
 cases H
 exact je ⟨z, z, z, z, z, z, z, z, z, tv⟩ aC
 refine mv z<|bK H fun X hC H=>js 4 A [(3, int .i64 t), (4, int .i64 a17), (5, int .i64 d), (6, int .i64 b), (7, int .i64 q), (8, int .i64 a), (9, slice r a22.length s), (33, bool X)] ?_ fun _ aZ B=>?_
 refine have H:=hC;dC (W = true) (fun g=>?_) fun g=>?_
 refine yK g H fun H=>Sk 3 z z (vY g) z<|bR (vY g) z<|nl<|?_
 cases H
 exact je ⟨z, z, z, z, z, z, z, z, tv⟩ A
 refine nK g H fun H=>mv (hw:=gY z z z (vN g)) z<|bK H fun a0 aD H=>cv (hw:=gY z z z (vN g)) xh (cH aD A) z z fun a2 aE=>be (hw:=gY z z z (vN g)) z<|b7 (vN g) z<|nl<|?_
 cases H
 exact je ⟨z, z, z, z, z, z, z, z, tv⟩ aE
 refine mv z<|bK H fun Y hC H=>js 3 B [(3, int .i64 t), (4, int .i64 a17), (5, int .i64 d), (6, int .i64 b), (7, int .i64 q), (8, int .i64 a), (9, slice r a22.length s), (37, bool Y)] ?_ fun _ a3 C=>?_
 refine have H:=hC;dC (X = true) (fun h=>?_) fun h=>?_
 refine yK h H fun H=>Sk 2 z z (vY h) z<|bR (vY h) z<|nl<|?_
 cases H
 exact je ⟨z, z, z, z, z, z, z, z, tv⟩ B
 refine nK h H fun H=>mv (hw:=gY z z z (vN h)) z<|aN (hw:=gY z z z (vN h)) z z<|b7 (vN h) z<|nl<|?_
 cases H
 exact je ⟨z, z, z, z, z, z, z, z, tv⟩ B
 refine mv z<|bK H fun Z hC H=>js 3 C [(4, int .i64 a17), (5, int .i64 d), (6, int .i64 b), (7, int .i64 q), (8, int .i64 a), (9, slice r a22.length s), (41, bool Z)] ?_ fun _ a4 D=>?_
 refine have H:=hC;dC (Y = true) (fun i=>?_) fun i=>?_
 refine yK i H fun H=>Sk 2 z z (vY i) z<|bR (vY i) z<|nl<|?_
 cases H
 exact je ⟨z, z, z, z, z, z, z, tv⟩ C
 refine nK i H fun H=>mv (hw:=gY z z z (vN i)) z<|cc (hw:=gY z z z (vN i)) z z<|b7 (vN i) z<|nl<|?_
 cases H
 exact je ⟨z, z, z, z, z, z, z, tv⟩ C
 refine mv z<|bK H fun aa hC H=>js 5 D [(4, int .i64 a17), (5, int .i64 d), (6, int .i64 b), (8, int .i64 a), (47, bool aa)] ?_ fun _ a5 x=>?_
 refine have H:=hC;dC (Z = true) (fun c=>?_) fun c=>?_
 refine yK c H fun H=>Sk 4 z z (vY c) z<|bR (vY c) z<|nl<|?_
 cases H
 exact je ⟨z, z, z, z, z, tv⟩ D
 refine nK c H fun H=>mv (hw:=gY z z z (vN c)) z<|mv (hw:=gY z z z (vN c)) z<|bK H fun a6 aF H=>cv (hw:=gY z z z (vN c)) El (l4 aF D ap aq) z z fun a7 aG=>be (hw:=gY z z z (vN c)) z<|b7 (vN c) z<|nl<|?_
 cases H
 exact je ⟨z, z, z, z, z, tv⟩ aG
 refine nl<|ax _ _ _<|dC (aa = true) (fun u=>?_) fun u=>?_
 refine yK u H fun H=>wt (vY u)<|sr fun a8 aH=>aj z<|nl<|aH _ _ _<|wr<|have aI:=Hp.pick 2 [] x z;?_
 cases H
 exact rt ⟨_, _, z, z, z⟩ aI
 refine nK u H fun H=>wf (vN u)<|ws<|aw _ _ _<|sr fun a9 aJ=>mv z<|gM z z<|mv z<|bK H fun ab hC H=>js 3 x [(5, int .i64 d), (6, int .i64 b), (8, int .i64 a), (53, bool ab)] ?_ fun _ ba E=>?_
 refine have H:=hC;dC (0 ≤ a17) (fun j=>?_) fun j=>?_
 refine yK j H fun H=>mv (hw:=gY z z z (bY j)) z<|eI (hw:=gY z z z (bY j)) z z<|bR (bY j) z<|nl<|?_
 cases H
 exact je ⟨z, z, z, z, tv⟩ x
 refine nK j H fun H=>Sk 2 z z (bN j) z<|b7 (bN j) z<|nl<|?_
 cases H
 exact je ⟨z, z, z, z, tv⟩ x
 refine mv z<|bK H fun ad hC H=>js 3 E [(5, int .i64 d), (6, int .i64 b), (8, int .i64 a), (57, bool ad)] ?_ fun _ bb F=>?_
 refine have H:=hC;dC (ab = true) (fun k=>?_) fun k=>?_
 refine yK k H fun H=>mv (hw:=gY z z z (vY k)) z<|gM (hw:=gY z z z (vY k)) z z<|bR (vY k) z<|nl<|?_
 cases H
 exact je ⟨z, z, z, z, tv⟩ E
 refine nK k H fun H=>Sk 2 z z (vN k) z<|b7 (vN k) z<|nl<|?_
 cases H
 exact je ⟨z, z, z, z, tv⟩ E
 refine mv z<|bK H fun ae hC H=>js 3 F [(6, int .i64 b), (8, int .i64 a), (61, bool ae)] ?_ fun _ bc I=>?_
 refine have H:=hC;dC (ad = true) (fun l=>?_) fun l=>?_
 refine yK l H fun H=>mv (hw:=gY z z z (vY l)) z<|eI (hw:=gY z z z (vY l)) z z<|bR (vY l) z<|nl<|?_
 cases H
 exact je ⟨z, z, z, tv⟩ F
 refine nK l H fun H=>Sk 2 z z (vN l) z<|b7 (vN l) z<|nl<|?_
 cases H
 exact je ⟨z, z, z, tv⟩ F
 refine mv z<|bK H fun af hC H=>js 3 I [(6, int .i64 b), (8, int .i64 a), (65, bool af)] ?_ fun _ bd J=>?_
 refine have H:=hC;dC (ae = true) (fun m=>?_) fun m=>?_
 refine yK m H fun H=>mv (hw:=gY z z z (vY m)) z<|gM (hw:=gY z z z (vY m)) z z<|bR (vY m) z<|nl<|?_
 cases H
 exact je ⟨z, z, z, tv⟩ I
 refine nK m H fun H=>Sk 2 z z (vN m) z<|b7 (vN m) z<|nl<|?_
 cases H
 exact je ⟨z, z, z, tv⟩ I
 refine mv z<|bK H fun ag hC H=>js 3 J [(8, int .i64 a), (69, bool ag)] ?_ fun _ bf K=>?_
 refine have H:=hC;dC (af = true) (fun n=>?_) fun n=>?_
 refine yK n H fun H=>mv (hw:=gY z z z (vY n)) z<|eI (hw:=gY z z z (vY n)) z z<|bR (vY n) z<|nl<|?_
 cases H
 exact je ⟨z, z, tv⟩ J
 refine nK n H fun H=>Sk 2 z z (vN n) z<|b7 (vN n) z<|nl<|?_
 cases H
 exact je ⟨z, z, tv⟩ J
 refine mv z<|bK H fun ah hC H=>js 3 K [(8, int .i64 a), (73, bool ah)] ?_ fun _ bg M=>?_
 refine have H:=hC;dC (ag = true) (fun o=>?_) fun o=>?_
 refine yK o H fun H=>mv (hw:=gY z z z (vY o)) z<|gM (hw:=gY z z z (vY o)) z z<|bR (vY o) z<|nl<|?_
 cases H
 exact je ⟨z, z, tv⟩ K
 refine nK o H fun H=>Sk 2 z z (vN o) z<|b7 (vN o) z<|nl<|?_
 cases H
 exact je ⟨z, z, tv⟩ K
 refine mv z<|bK H fun aK hC H=>js 3 M [(77, bool aK)] ?_ fun _ bh aL=>?_
 refine have H:=hC;dC (ah = true) (fun p=>?_) fun p=>?_
 refine yK p H fun H=>mv (hw:=gY z z z (vY p)) z<|eI (hw:=gY z z z (vY p)) z z<|bR (vY p) z<|nl<|?_
 cases H
 exact je ⟨z, tv⟩ M
 refine nK p H fun H=>Sk 2 z z (vN p) z<|b7 (vN p) z<|nl<|?_
 cases H
 exact je ⟨z, tv⟩ M
 refine aj z<|nl<|aJ _ _ _<|wr<|have aM:=Hp.pick 2 [] aL z;?_
 cases H
 exact rt ⟨_, _, z, z, z⟩ aM
theorem mG {a1 b G L w} (H : ia a1 = some b) (hI : Hp G L w) :
    Calls Tryz.prog 55 [int .i64 a1].toArray w fun e w' => Hp G L w' ∧ e = .returned (bool b) := by
 refine ac (N := 9) Tryz.func55 z z (Nat.le_of_ble_eq_true z)<|?_
 unfold ia at H
 refine sr fun h c=>aj z<|nl<|c _ _ _<|sr fun i d=>mv z<|gM z z<|mv z<|bK H fun f hC H=>js 3 hI [(8, bool f)] ?_ fun _ j g=>?_
 refine have H:=hC;dC (0 ≤ a1) (fun a=>?_) fun a=>?_
 refine yK a H fun H=>mv (hw:=gY z z z (bY a)) z<|eI (hw:=gY z z z (bY a)) z z<|bR (bY a) z<|nl<|?_
 cases H
 exact je ⟨z, tv⟩ hI
 refine nK a H fun H=>Sk 2 z z (bN a) z<|b7 (bN a) z<|nl<|?_
 cases H
 exact je ⟨z, tv⟩ hI
 refine aj z<|nl<|d _ _ _<|wr<|?_
 cases H
 exact rt ⟨_, _, z, z, z⟩ g
theorem lA {a1 b G L w} (H : fY a1 = some b) (hI : Hp G L w) :
    Calls Tryz.prog 59 [int .i64 a1].toArray w fun e w' => Hp G L w' ∧ e = .returned (bool b) := by
 refine ac (N := 9) Tryz.func59 z z (Nat.le_of_ble_eq_true z)<|?_
 unfold fY at H
 refine sr fun h c=>aj z<|nl<|c _ _ _<|sr fun i d=>mv z<|gM z z<|mv z<|bK H fun f hC H=>js 3 hI [(8, bool f)] ?_ fun _ j g=>?_
 refine have H:=hC;dC (50 ≤ a1) (fun a=>?_) fun a=>?_
 refine yK a H fun H=>mv (hw:=gY z z z (bY a)) z<|eI (hw:=gY z z z (bY a)) z z<|bR (bY a) z<|nl<|?_
 cases H
 exact je ⟨z, tv⟩ hI
 refine nK a H fun H=>Sk 2 z z (bN a) z<|b7 (bN a) z<|nl<|?_
 cases H
 exact je ⟨z, tv⟩ hI
 refine aj z<|nl<|d _ _ _<|wr<|?_
 cases H
 exact rt ⟨_, _, z, z, z⟩ g
theorem qk {a1 a2 h G L w} (H : kH a1 a2 = some h) (hI : Hp G L w) :
    Calls Tryz.prog 153 [string a1, int .i64 a2].toArray w fun e w' => Hp G L w' ∧ e = .returned (bool h) := by
 refine ac (N := 15) Tryz.func153 z z (Nat.le_of_ble_eq_true z)<|?_
 unfold kH at H
 refine sr fun A j=>aj z<|nl<|j _ _ _<|sQ fun B k=>sr fun C l=>aj z<|nl<|l _ _ _<|wb<|bK H fun f hC H=>aq (Q := fun e r ds w => match (generalizing := false) f with | (Sum.inl _) => e = .ret ∧ ds = [] ∧ Has [(4, bool true)] r ∧ Hp G (L) w ∧ True | (Sum.inr _) => e = .exit 0 ∧ ds = [] ∧ Has [] r ∧ Hp G (L) w ∧ True) ?_ ?_
 refine aB fun I i=>?_
 refine e9.partial_correctness a1 a2 (fun d o => ∀ (r : Rg) (w : World), Has [(0, string a1), (1, int .i64 a2), (5, int .i64 d)] r → Hp G (L) w → o = f → I r [] w) ?_ 0 _ hC _ _ ⟨rfl, rfl, rfl, tv⟩ hI rfl
 intro _ ih d o H r D a g ho
 rw [ho] at H; clear ho
 rw [a.eq]; clear a
 refine i _ _ _<|sQ fun E m=>sr fun F n=>mv z<|mv z<|aN z z<|nl<|n _ _ _<|dC (d < a2) (fun b=>?_) fun b=>?_
 refine yK b H fun H=>wt (bY b)<|ws<|m _ _ _<|sQ fun J p=>wb<|sr fun K q=>mv z<|mv z<|iK H fun⟨s, t⟩H=>gc fA z z s t z<|dW z z<|nl<|q _ _ _<|?_
 refine dC (¬ (bt a1 d) = 32) (fun c=>?_) fun c=>?_
 refine yK c H fun H=>wt (bY c)<|sr fun M u=>aj z<|nl<|u _ _ _<|wr<|?_
 cases H
 exact ⟨z, z, ⟨z, tv⟩, g, tv⟩
 exact nK c H fun H=>wf (bN c)<|ws<|p _ _ _<|ae<|mv z<|ba z z<|aj z<|nl<|ih _ _ H _ _ ⟨z, z, z, tv⟩ g z
 refine nK b H fun H=>wf (bN b)<|wx<|?_
 cases H
 exact ⟨z, z, trivial, g, tv⟩
 rcases f with _ | _
 rintro e r ds O ⟨rfl, rfl, a, v, _⟩
 rw [a.eq]; clear a
 cases H
 exact rt ⟨_, _, z, z, z⟩ v
 rintro e r ds P ⟨rfl, rfl, a, x, _⟩
 rw [a.eq]; clear a
 refine k _ _ _<|sr fun R y=>aj z<|nl<|y _ _ _<|wr<|?_
 cases H
 exact rt ⟨_, _, z, z, z⟩ x
theorem lY {a1 c G L w} (H : gz a1 = some c) (hI : Hp G L w) :
    Calls Tryz.prog 154 [int .u8 a1].toArray w fun e w' => Hp G L w' ∧ e = .returned (bool c) := by
 refine ac (N := 12) Tryz.func154 z z (Nat.le_of_ble_eq_true z)<|?_
 unfold gz at H
 refine sr fun l d=>aj z<|nl<|d _ _ _<|sr fun m f=>mv z<|bK H fun g h H=>cv yZ (dS h hI) z z fun n b=>aj z<|nl<|f _ _ _<|sr fun o i=>mv z<|gM z z<|?_
 refine mv z<|bK H fun j hC H=>js 3 b [(11, bool j)] ?_ fun _ p k=>?_
 refine have H:=hC;dC (1 ≤ g) (fun a=>?_) fun a=>?_
 refine yK a H fun H=>mv (hw:=gY z z z (bY a)) z<|eI (hw:=gY z z z (bY a)) z z<|bR (bY a) z<|nl<|?_
 cases H
 exact je ⟨z, tv⟩ b
 refine nK a H fun H=>Sk 2 z z (bN a) z<|b7 (bN a) z<|nl<|?_
 cases H
 exact je ⟨z, tv⟩ b
 refine aj z<|nl<|i _ _ _<|wr<|?_
 cases H
 exact rt ⟨_, _, z, z, z⟩ k
theorem lB {a1 c G L w} (H : f9 a1 = some c) (hI : Hp G L w) :
    Calls Tryz.prog 155 [int .u8 a1].toArray w fun e w' => Hp G L w' ∧ e = .returned (bool c) := by
 refine ac (N := 12) Tryz.func155 z z (Nat.le_of_ble_eq_true z)<|?_
 unfold f9 at H
 refine sr fun l d=>aj z<|nl<|d _ _ _<|sr fun m f=>mv z<|bK H fun g h H=>cv yZ (dS h hI) z z fun n b=>aj z<|nl<|f _ _ _<|sr fun o i=>mv z<|bA z z<|?_
 refine mv z<|bK H fun j hC H=>js 3 b [(11, bool j)] ?_ fun _ p k=>?_
 refine have H:=hC;dC (g = 1) (fun a=>?_) fun a=>?_
 refine yK a H fun H=>Sk 2 z z (bY a) z<|bR (bY a) z<|nl<|?_
 cases H
 exact je ⟨z, tv⟩ b
 refine nK a H fun H=>mv (hw:=gY z z z (bN a)) z<|bA (hw:=gY z z z (bN a)) z z<|b7 (bN a) z<|nl<|?_
 cases H
 exact je ⟨z, tv⟩ b
 refine aj z<|nl<|i _ _ _<|wr<|?_
 cases H
 exact rt ⟨_, _, z, z, z⟩ k
theorem mT {a1 a2 c t u G L w} (H : jL a1 a2 c = some (t, u)) (hI : Hp G L w) :
    Calls Tryz.prog 156 [string a1, int .i64 a2, int .i64 c].toArray w fun e w' => Hp G L w' ∧ e = .returned (tuple [int .i64 t, int .u8 u].toArray) := by
 refine ac (N := 44) Tryz.func156 z z (Nat.le_of_ble_eq_true z)<|?_
 unfold jL at H
 refine sr fun K4 E=>aj z<|aj z<|nl<|E _ _ _<|sr fun K6 F=>aj z<|nl<|F _ _ _<|sr fun K8 J=>aj z<|nl<|J _ _ _<|sQ fun ak K=>?_
 refine wb<|iJ H fun v x hC H=>aq (Q := fun e r ds w => e = .exit 0 ∧ ds = [] ∧ Has [(8, int .i64 v), (9, int .u8 x)] r ∧ Hp G (L) w ∧ True) ?_ ?_
 refine aB fun I D=>?_
 refine bT.partial_correctness a1 c (fun f g l o => ∀ (r : Rg) (w : World), Has [(0, string a1), (1, int .i64 f), (2, int .i64 c), (8, int .i64 g), (9, int .u8 l)] r → Hp G (L) w → o = (v, x) → I r [] w) ?_ a2 0 0 _ hC _ _ ⟨rfl, rfl, rfl, rfl, rfl, tv⟩ hI rfl
 intro _ ih f g l o H r al d n ho
 rw [ho] at H; clear ho
 rw [d.eq]; clear d
 refine D _ _ _<|sQ fun am M=>sr fun an O=>mv z<|gM z z<|mv z<|bK H fun y hC H=>js 5 n [(0, string a1), (1, int .i64 f), (2, int .i64 c), (8, int .i64 g), (9, int .u8 l), (18, bool y)] ?_ fun _ ao A=>?_
 refine have H:=hC;dC (0 ≤ f) (fun a=>?_) fun a=>?_
 refine yK a H fun H=>mv (hw:=gY z z z (bY a)) z<|mv (hw:=gY z z z (bY a)) z<|cX (hw:=gY z z z (bY a)) fA z<|aN (hw:=gY z z z (bY a)) z z<|bR (bY a) z<|nl<|?_
 cases H
 exact je ⟨z, z, z, z, z, z, tv⟩ n
 refine nK a H fun H=>Sk 4 z z (bN a) z<|b7 (bN a) z<|nl<|?_
 cases H
 exact je ⟨z, z, z, z, z, z, tv⟩ n
 refine nl<|O _ _ _<|dC (y = true) (fun h=>?_) fun h=>?_
 refine yK h H fun H=>wt (vY h)<|ws<|M _ _ _<|wb<|sr fun ap P=>mv z<|mv z<|iK H fun⟨R, S⟩H=>gc fA z z R S z<|bK H fun p T H=>cv C1 (lB T A) z z fun ar q=>aj z<|nl<|?_
 refine P _ _ _<|sQ fun au U=>sr fun av V=>mv z<|be z<|mv z<|bK H fun B hC H=>js 5 q [(0, string a1), (1, int .i64 f), (2, int .i64 c), (8, int .i64 g), (9, int .u8 l), (10, bool p), (30, bool B)] ?_ fun _ aw m=>?_
 refine have H:=hC;dC ((!p) = true) (fun b=>?_) fun b=>?_
 refine yK b H fun H=>mv (hw:=gY z z z (vY b)) z<|mv (hw:=gY z z z (vY b)) z<|iK H fun⟨W, X⟩H=>gc (hw:=gY z z z (vY b)) fA z z W X z<|dW (hw:=gY z z z (vY b)) z z<|bR (vY b) z<|nl<|?_
 cases H
 exact je ⟨z, z, z, z, z, z, z, tv⟩ q
 refine nK b H fun H=>Sk 4 z z (vN b) z<|b7 (vN b) z<|nl<|?_
 cases H
 exact je ⟨z, z, z, z, z, z, z, tv⟩ q
 refine nl<|V _ _ _<|dC (B = true) (fun i=>?_) fun i=>?_
 refine yK i H fun H=>wt (vY i)<|wx<|?_
 cases H
 exact ⟨z, z, ⟨z, z, tv⟩, m, tv⟩
 refine nK i H fun H=>wf (vN i)<|ws<|U _ _ _<|sQ fun ax s=>sr fun ay Y=>mv z<|nl<|Y _ _ _<|dC (p = true) (fun j=>?_) fun j=>?_
 refine yK j H fun H=>wt (vY j)<|sQ fun az C=>sr fun aA Z=>mv z<|bA z z<|nl<|Z _ _ _<|dC (g = 0) (fun k=>?_) fun k=>?_
 refine yK k H fun H=>wt (bY k)<|ae<|mv z<|mv z<|iK H fun⟨aa, ab⟩H=>gc fA z z aa ab z<|aj z<|nl<|C _ _ _<|ae<|mv z<|ba z z<|aj z<|?_
 exact nl<|s _ _ _<|ae<|mv z<|mv z<|ba z z<|aj z<|nl<|ih _ _ _ _ H _ _ ⟨z, z, z, z, z, tv⟩ m z
 refine nK k H fun H=>wf (bN k)<|ws<|C _ _ _<|ae<|mv z<|ba z z<|aj z<|nl<|s _ _ _<|ae<|mv z<|mv z<|ba z z<|?_
 exact aj z<|nl<|ih _ _ _ _ H _ _ ⟨z, z, z, z, z, tv⟩ m z
 exact nK j H fun H=>wf (vN j)<|ws<|s _ _ _<|ae<|mv z<|mv z<|ba z z<|aj z<|nl<|ih _ _ _ _ H _ _ ⟨z, z, z, z, z, tv⟩ m z
 refine nK h H fun H=>wf (vN h)<|wx<|?_
 cases H
 exact ⟨z, z, ⟨z, z, tv⟩, A, tv⟩
 rintro e r ds aC ⟨rfl, rfl, d, ad, _⟩
 rw [d.eq]; clear d
 refine K _ _ _<|sr fun aD af=>mv z<|mv z<|aj z<|aj z<|nl<|af _ _ _<|wr<|?_
 cases H
 exact rt ⟨_, _, z, z, ⟨_, _, z, z, z⟩⟩ ad
theorem pZ {a1 a6 f g h m G L w} (H : kI a1 a6 f = some m) (hI : Hp G L w) (af : a1.Keep.length ≤ h) (n : Dat Kd.str G g a1.Keep) :
    Calls Tryz.prog 157 [agg [int .i64 a1.Before, int .i64 a1.Behind, slice g a1.Keep.length h].toArray, int .u8 a6, int .u8 f].toArray w fun e w' => Hp G L w' ∧ e = .returned (bool m) := by
 refine ac (N := 33) Tryz.func157 z z (Nat.le_of_ble_eq_true z)<|?_
 unfold kI at H
 refine sr fun K8 y=>io hI z z fun i ah A=>aj z<|nl<|y _ _ _<|sQ fun ai B=>sr fun ak C=>aj z<|nl<|C _ _ _<|wb<|bK H fun l hC H=>?_
 refine aq (Q := fun e r ds w => match (generalizing := false) l with | (Sum.inl _) => e = .ret ∧ ds = [] ∧ Has [(6, bool true)] r ∧ Hp G (bx i [int .i64 a1.Before, int .i64 a1.Behind, slice g a1.Keep.length h] 28 :: L) w ∧ True | (Sum.inr _) => e = .exit 0 ∧ ds = [] ∧ Has [] r ∧ Hp G (bx i [int .i64 a1.Before, int .i64 a1.Behind, slice g a1.Keep.length h] 28 :: L) w ∧ True) ?_ ?_
 refine aB fun I x=>?_
 refine eZ.partial_correctness a1 a6 f (fun d o => ∀ (r : Rg) (w : World), Has [(1, int .u8 a6), (2, int .u8 f), (3, pointer (some ⟨i, 0, none⟩)), (7, int .i64 d)] r → Hp G (bx i [int .i64 a1.Before, int .i64 a1.Behind, slice g a1.Keep.length h] 28 :: L) w → o = l → I r [] w) ?_ 0 _ hC _ _ ⟨rfl, rfl, rfl, rfl, tv⟩ A rfl
 intro _ ih d o H r al c b ho
 rw [ho] at H; clear ho
 rw [c.eq]; clear c
 refine x _ _ _<|sQ fun am D=>sr fun an E=>mv z<|fa ow z<|ld b 0 ul z z z<|q_len zq z<|aN z z<|nl<|E _ _ _<|dC (d < (a1.Keep.length : Int)) (fun j=>?_) fun j=>?_
 refine yK j H fun H=>wt (bY j)<|ws<|D _ _ _<|sQ fun ao F=>wb<|sr fun ap J=>fa ow z<|ld b 0 ul z z z<|mv z<|iK H fun⟨p, q⟩H=>?_
 obtain ⟨ar, au, K, M, av, O⟩ := Dat.get n (⟨#[]⟩ : ByteArray) (d) p q
 obtain rfl := M
 refine bP zj z K z p q<|fO b qU z (gR.cel _ _ (O 0 _ z))<|iK H fun⟨P, R⟩H=>gc fA z z P R z<|mv z<|bA z z<|mv z<|bK H fun s hC H=>js 9 b [(1, int .u8 a6), (2, int .u8 f), (3, pointer (some ⟨i, 0, none⟩)), (7, int .i64 d), (32, bool s)] ?_ fun _ aw t=>?_
 refine have H:=hC;dC ((bt (a1.Keep.getD (Int.toNat d) (⟨#[]⟩ : ByteArray)) 0) = a6) (fun a=>?_) fun a=>?_
 refine yK a H fun H=>fa (hw:=gY z z z (bY a)) ow z<|ld (hw:=gY z z z (bY a)) b 0 ul z z z<|mv (hw:=gY z z z (bY a)) z<|iK H fun⟨u, v⟩H=>?_
 obtain ⟨ax, ay, S, T, az, U⟩ := Dat.get n (⟨#[]⟩ : ByteArray) (d) u v
 obtain rfl := T
 refine bP (hw:=gY z z z (bY a)) zj z S z u v<|fO (hw:=gY z z z (bY a)) b qU z (gR.cel _ _ (U 0 _ z))<|iK H fun⟨V, W⟩H=>gc (hw:=gY z z z (bY a)) fA z z V W z<|mv (hw:=gY z z z (bY a)) z<|bA (hw:=gY z z z (bY a)) z z<|bR (bY a) z<|nl<|?_
 cases H
 exact je ⟨z, z, z, z, z, tv⟩ b
 refine nK a H fun H=>Sk 8 z z (bN a) z<|b7 (bN a) z<|nl<|?_
 cases H
 exact je ⟨z, z, z, z, z, tv⟩ b
 refine nl<|J _ _ _<|dC (s = true) (fun k=>?_) fun k=>?_
 refine yK k H fun H=>wt (vY k)<|sr fun aA X=>aj z<|nl<|X _ _ _<|wr<|?_
 cases H
 exact ⟨z, z, ⟨z, tv⟩, t, tv⟩
 exact nK k H fun H=>wf (vN k)<|ws<|F _ _ _<|ae<|mv z<|ba z z<|aj z<|nl<|ih _ _ H _ _ ⟨z, z, z, z, tv⟩ t z
 refine nK j H fun H=>wf (bN j)<|wx<|?_
 cases H
 exact ⟨z, z, trivial, b, tv⟩
 rcases l with _ | _
 rintro e r ds aC ⟨rfl, rfl, c, Y, _⟩
 rw [c.eq]; clear c
 refine have Z:=Hp.pick 1 [] Y z;?_
 cases H
 exact rt ⟨_, _, z, z, z⟩ Z
 rintro e r ds aD ⟨rfl, rfl, c, aa, _⟩
 rw [c.eq]; clear c
 refine B _ _ _<|sr fun aE ab=>aj z<|nl<|ab _ _ _<|wr<|have ad:=Hp.pick 1 [] aa z;?_
 cases H
 exact rt ⟨_, _, z, z, z⟩ ad
theorem pu {a1 a6 b r s t u G L w} (H : iP a1 a6 b = some (t, u)) (hI : Hp G L w) (y : a1.Keep.length ≤ s) (A : Dat Kd.str G r a1.Keep) :
    Calls Tryz.prog 123 [agg [int .i64 a1.Before, int .i64 a1.Behind, slice r a1.Keep.length s].toArray, string a6, int .i64 b].toArray w fun e w' => Hp G L w' ∧ e = .returned (tuple [bool t, bool u].toArray) := by
 refine ac (N := 93) Tryz.func123 z z (Nat.le_of_ble_eq_true z)<|?_
 unfold iP at H
 refine sr fun K8 B=>io hI z z fun C a4 f=>aj z<|aj z<|nl<|B _ _ _<|sr fun a5 D=>mv z<|mv z<|dl z z<|iK H fun⟨E, F⟩H=>gc fA z z E F z<|aj z<|nl<|?_
 refine D _ _ _<|sQ fun a8 I=>sr fun a9 J=>mv z<|bA z z<|nl<|J _ _ _<|dC ((bt a6 (ax (b - 1))) = 32) (fun g=>?_) fun g=>?_
 refine yK g H fun H=>wt (bY g)<|sr fun ba K=>mv z<|mv z<|bK H fun bb M H=>cv Ez (qk M f) z z fun bc o=>aj z<|nl<|K _ _ _<|sr fun bd O=>mv z<|mv z<|iK H fun⟨P, Q⟩H=>?_
 refine gc fA z z P Q z<|dW z z<|mv z<|bK H fun R hC H=>js 2 o [(33, bool R)] ?_ fun _ bf S=>?_
 refine have H:=hC;dC (¬ (bt a6 b) = 32) (fun c=>?_) fun c=>?_
 refine yK c H fun H=>mv (hw:=gY z z z (bY c)) z<|bR (bY c) z<|nl<|?_
 cases H
 exact je ⟨z, tv⟩ o
 refine nK c H fun H=>wN (gN z z z (bN c) z)<|b7 (bN c) z<|nl<|?_
 cases H
 exact je ⟨z, tv⟩ o
 refine aj z<|aj z<|nl<|O _ _ _<|wr<|have T:=Hp.pick 1 [] S z;?_
 cases H
 exact rt ⟨_, _, z, z, ⟨_, _, z, z, z⟩⟩ T
 refine nK g H fun H=>wf (bN g)<|ws<|I _ _ _<|sQ fun bg U=>sr fun bh V=>mv z<|bA z z<|nl<|V _ _ _<|dC ((bt a6 (ax (b - 1))) = 45) (fun h=>?_) fun h=>?_
 refine yK h H fun H=>wt (bY h)<|sQ fun bi W=>sr fun bj X=>mv z<|aN z z<|nl<|X _ _ _<|dC (b < 2) (fun i=>?_) fun i=>?_
 refine yK i H fun H=>wt (bY i)<|sr fun bk Y=>aj z<|aj z<|nl<|Y _ _ _<|wr<|have Z:=Hp.pick 1 [] f z;?_
 cases H
 exact rt ⟨_, _, z, z, ⟨_, _, z, z, z⟩⟩ Z
 refine nK i H fun H=>wf (bN i)<|ws<|W _ _ _<|sr fun bl aa=>mv z<|mv z<|dl z z<|iK H fun⟨ab, ad⟩H=>gc fA z z ab ad z<|bK H fun ae af H=>cv CM (lY af f) z z fun bm ag=>aj z<|nl<|?_
 refine aa _ _ _<|sr fun bn ah=>mv z<|mv z<|iK H fun⟨ai, ak⟩H=>gc fA z z ai ak z<|bK H fun bo al H=>cv CM (lY al ag) z z fun bp p=>aj z<|nl<|ah _ _ _<|sr fun bq am=>mv z<|mv z<|?_
 refine bK H fun an hC H=>js 2 p [(50, bool an)] ?_ fun _ br ao=>?_
 refine have H:=hC;dC (ae = true) (fun d=>?_) fun d=>?_
 refine yK d H fun H=>mv (hw:=gY z z z (vY d)) z<|bR (vY d) z<|nl<|?_
 cases H
 exact je ⟨z, tv⟩ p
 refine nK d H fun H=>wN (gN z z z (vN d) z)<|b7 (vN d) z<|nl<|?_
 cases H
 exact je ⟨z, tv⟩ p
 refine aj z<|aj z<|nl<|am _ _ _<|wr<|have ap:=Hp.pick 1 [] ao z;?_
 cases H
 exact rt ⟨_, _, z, z, ⟨_, _, z, z, z⟩⟩ ap
 refine nK h H fun H=>wf (bN h)<|ws<|U _ _ _<|sQ fun bs aq=>sr fun bu ar=>mv z<|dW z z<|nl<|ar _ _ _<|dC (¬ (bt a6 (ax (b - 1))) = 126) (fun j=>?_) fun j=>?_
 refine yK j H fun H=>wt (bY j)<|sr fun bw au=>aj z<|aj z<|nl<|au _ _ _<|wr<|have av:=Hp.pick 1 [] f z;?_
 cases H
 exact rt ⟨_, _, z, z, ⟨_, _, z, z, z⟩⟩ av
 refine nK j H fun H=>wf (bN j)<|ws<|aq _ _ _<|sQ fun bx aw=>sr fun bz ay=>mv z<|aN z z<|nl<|ay _ _ _<|dC (b < 2) (fun k=>?_) fun k=>?_
 refine yK k H fun H=>wt (bY k)<|sr fun bB az=>aj z<|aj z<|nl<|az _ _ _<|wr<|have aA:=Hp.pick 1 [] f z;?_
 cases H
 exact rt ⟨_, _, z, z, ⟨_, _, z, z, z⟩⟩ aA
 refine nK k H fun H=>wf (bN k)<|ws<|aw _ _ _<|sr fun bC aB=>mv z<|mv z<|dl z z<|iK H fun⟨aC, aD⟩H=>gc fA z z aC aD z<|bK H fun aE aF H=>cv C1 (lB aF f) z z fun bD v=>aj z<|nl<|?_
 refine aB _ _ _<|sQ fun bE aG=>sr fun bF aH=>mv z<|be z<|nl<|aH _ _ _<|dC ((!aE) = true) (fun l=>?_) fun l=>?_
 refine yK l H fun H=>wt (vY l)<|sr fun bG aI=>aj z<|aj z<|nl<|aI _ _ _<|wr<|have aJ:=Hp.pick 1 [] v z;?_
 cases H
 exact rt ⟨_, _, z, z, ⟨_, _, z, z, z⟩⟩ aJ
 refine nK l H fun H=>wf (vN l)<|ws<|aG _ _ _<|sr fun bH aK=>mv z<|mv z<|dl z z<|iJ H fun aL aM aO H=>cv C3 (mT aO v) z z fun bI aP=>mv z<|cK z z<|cK z z<|aj z<|?_
 refine aj z<|nl<|aK _ _ _<|sr fun bJ aQ=>mv z<|mv z<|iJ H fun bL aR aS H=>cv C3 (mT aS aP) z z fun bM m=>mv z<|cK z z<|cK z z<|aj z<|aj z<|nl<|?_
 refine aQ _ _ _<|sQ fun bO aT=>sr fun bP aU=>mv z<|fa t6 z<|ld m 0 bv z z z<|aN z z<|mv z<|bK H fun x hC H=>js 5 m [(3, pointer (some ⟨C, 0, none⟩)), (14, int .u8 aM), (16, int .u8 aR), (84, bool x)] ?_ fun _ bQ q=>?_
 refine have H:=hC;dC (aL < a1.Before) (fun a=>?_) fun a=>?_
 refine yK a H fun H=>Sk 4 z z (bY a) z<|bR (bY a) z<|nl<|?_
 cases H
 exact je ⟨z, z, z, z, tv⟩ m
 refine nK a H fun H=>mv (hw:=gY z z z (bN a)) z<|fa (hw:=gY z z z (bN a)) tS z<|ld (hw:=gY z z z (bN a)) m 0 bv z z z<|aN (hw:=gY z z z (bN a)) z z<|b7 (bN a) z<|nl<|?_
 cases H
 exact je ⟨z, z, z, z, tv⟩ m
 refine nl<|aU _ _ _<|dC (x = true) (fun n=>?_) fun n=>?_
 refine yK n H fun H=>wt (vY n)<|sr fun bS aV=>aj z<|aj z<|nl<|aV _ _ _<|wr<|have aW:=Hp.pick 1 [] q z;?_
 cases H
 exact rt ⟨_, _, z, z, ⟨_, _, z, z, z⟩⟩ aW
 refine nK n H fun H=>wf (vN n)<|ws<|aT _ _ _<|sr fun bT aX=>d9 q 0 jT z z z z<|mv z<|mv z<|bK H fun bU aY H=>cv EQ (pZ aY q y A) z z fun bV aZ=>aj z<|nl<|aX _ _ _<|sr fun bW a0=>?_
 refine mv z<|be z<|mv z<|be z<|aj z<|aj z<|nl<|a0 _ _ _<|wr<|have a2:=Hp.pick 1 [] aZ z;?_
 cases H
 exact rt ⟨_, _, z, z, ⟨_, _, z, z, z⟩⟩ a2
theorem p9 {a1 a6 n p q R G L w} (H : jq a1 a6 = some (q, R)) (hI : Hp G L w) (S : a1.Keep.length ≤ p) (T : Dat Kd.str G n a1.Keep) :
    Calls Tryz.prog 88 [agg [int .i64 a1.Before, int .i64 a1.Behind, slice n a1.Keep.length p].toArray, string a6].toArray w fun e w' => ∃ (A : Option Addr) (B : Nat) (G' : Gh), G ≤ G' ∧ Hp G' (tk (slice A q.length B) 2 114 :: L) w' ∧ q.length ≤ B ∧ Dat aS G' A q ∧ Own A B ∧ e = .returned (tuple [slice A q.length B, int .i64 R].toArray) := by
 refine ac (N := 43) Tryz.func88 z z (Nat.le_of_ble_eq_true z)<|?_
 unfold jq at H
 refine sr fun K7 aa=>io hI z z fun h a4 U=>aj z<|aj z<|nl<|aa _ _ _<|sr fun a5 ab=>d9 U 0 jT z z z z<|bK H fun ad af H=>cv D1 (l2 af U S T) z z fun a7 ag=>aj z<|nl<|ab _ _ _<|sr fun a8 ai=>?_
 refine mv z<|bK H fun a9 ak H=>cv xh (cH ak ag) z z fun bb F=>aj z<|nl<|ai _ _ _<|sQ fun bc al=>sr fun bd am=>mv z<|be z<|mv z<|bK H fun V hC H=>js 3 F [(1, string a6), (2, pointer (some ⟨h, 0, none⟩)), (21, bool V)] ?_ fun _ bf W=>?_
 refine have H:=hC;dC ((!ad) = true) (fun c=>?_) fun c=>?_
 refine yK c H fun H=>Sk 2 z z (vY c) z<|bR (vY c) z<|nl<|?_
 cases H
 exact je ⟨z, z, z, tv⟩ F
 refine nK c H fun H=>mv (hw:=gY z z z (vN c)) z<|be (hw:=gY z z z (vN c)) z<|b7 (vN c) z<|nl<|?_
 cases H
 exact je ⟨z, z, z, tv⟩ F
 refine nl<|am _ _ _<|dC (V = true) (fun s=>?_) fun s=>?_
 refine yK s H fun H=>wt (vY s)<|sr fun bg an=>aj z<|aj z<|nl<|an _ _ _<|wr<|have ao:=Hp.emp W;have ap:=Hp.pick 2 [0] ao z;?_
 cases H
 exact ⟨.inr z, z, _, ⟨_, _, z, z, ⟨_, _, z, z, z⟩⟩, none, 0, _, gR, ap, (show ([] : List ah).length ≤ 0 from Nat.le_refl 0), (Dat.nil _ _ _), Own.nil, z⟩
 refine nK s H fun H=>wf (vN s)<|ws<|al _ _ _<|sr fun bh ar=>aj z<|nl<|ar _ _ _<|sQ fun bi au=>sr fun bj av=>aj z<|nl<|av _ _ _<|wb<|?_
 refine bK H fun t hC H=>?_
 refine aq (Q := fun e r ds w => e = .exit 0 ∧ ∃ (i : Option Addr) (j : Nat) (C : Gh), ds = [] ∧ G ≤ C ∧ Has [(8, slice i t.length j)] r ∧ Hp C (bx h [int .i64 a1.Before, int .i64 a1.Behind, slice n a1.Keep.length p] 28 :: tk (slice i t.length j) 2 114 :: L) w ∧ t.length ≤ j ∧ Dat aS C i t ∧ Own i j ∧ True) ?_ ?_
 refine have aw:=Hp.emp W;have ax:=Hp.pick 2 [1, 0] aw z;aB fun I Z=>?_
 refine eY.partial_correctness a1 a6 (fun k a o => ∀ (d : Option Addr) (f : Nat) (u : Gh) (r : Rg) (w : World), G ≤ u → Has [(1, string a6), (2, pointer (some ⟨h, 0, none⟩)), (8, slice d k.length f), (9, int .i64 a)] r → Hp u (bx h [int .i64 a1.Before, int .i64 a1.Behind, slice n a1.Keep.length p] 28 :: tk (slice d k.length f) 2 114 :: L) w → k.length ≤ f → Dat aS u d k → Own d f → o = t → I r [] w) ?_ ([] : List ah) 1 _ hC none 0 _ _ _ gR ⟨rfl, rfl, rfl, rfl, tv⟩ ax (show ([] : List ah).length ≤ 0 from Nat.le_refl 0) (Dat.nil _ _ _) Own.nil rfl
 intro _ ih k a o H d f u r bk J b K M O P ho
 rw [ho] at H; clear ho
 rw [b.eq]; clear b
 refine Z _ _ _<|sQ fun bl ay=>sr fun bm az=>mv z<|mv z<|cX fA z<|aN z z<|nl<|az _ _ _<|dC (a < (a6.size : Int)) (fun v=>?_) fun v=>?_
 refine yK v H fun H=>wt (bY v)<|ws<|ay _ _ _<|sQ fun bn aA=>bK H fun D hC H=>?_
 refine aq (Q := fun e r ds w => e = .normal ∧ ∃ (l : Option Addr) (m : Nat) (E : Gh), ds = [] ∧ u ≤ E ∧ Has [(1, string a6), (2, pointer (some ⟨h, 0, none⟩)), (8, slice l D.length m), (9, int .i64 a)] r ∧ Hp E (bx h [int .i64 a1.Before, int .i64 a1.Behind, slice n a1.Keep.length p] 28 :: tk (slice l D.length m) 2 114 :: L) w ∧ D.length ≤ m ∧ Dat aS E l D ∧ Own l m ∧ True) ?_ ?_
 refine have H:=hC;wb<|sr fun bo aC=>d9 K 0 jT z z z z<|mv z<|mv z<|iJ H fun aD g aE H=>cv EB (pu aE K S (Dat.mono J T)) z z fun bp X=>mv z<|cK z z<|cK z z<|aj z<|aj z<|nl<|?_
 refine aC _ _ _<|sr fun bq aF=>mv z<|nl<|aF _ _ _<|dC (aD = true) (fun y=>?_) fun y=>?_
 refine yK y H fun H=>wt (vY y)<|ae<|mv z<|mv z<|mv z<|bO (vs := [(0, int .i64 a), (1, bool g)]) (cs := [int .i64 a, bool g]) mR uI z z<|?_
 refine mm X (vs := [(0, agg [int .i64 a, bool g].toArray)]) (cs := [int .i64 a, bool g]) p7 mR rfl (by decide) rfl rfl (fun br bs Y => ?_)
 refine iK H fun bt H=>?_
 refine lu (xs := k) (ys := [(⟨a, g⟩ : ah)]) aS Y 2 p7 mR rfl rfl rfl rfl P M O (jF Y 0 vU rfl rfl) ⟨[int .i64 a, bool g], _, rfl, (iD (x := (⟨a, g⟩ : ah))), rfl⟩ rfl (by simp only [List.length_cons, List.length_nil]; omega) (by simp only [List.length_cons, List.length_nil]; omega) (fun aG aH bu bv aI aJ aK aL aM => ?_)
 refine aj z<|nl<|have aO:=Hp.pick 3 [1, 2] aM z;?_
 cases H
 exact ⟨z, aG, aH, _, z, aI, ⟨z, z, z, z, tv⟩, aO, aK, aL, aJ, tv⟩
 refine nK y H fun H=>wf (vN y)<|ws<|?_
 cases H
 exact ⟨z, d, f, _, z, gR, ⟨z, z, z, z, tv⟩, X, M, O, P, tv⟩
 rintro e r ds bw ⟨rfl, l, m, E, rfl, aP, b, aQ, aR, aT, aU, _⟩
 rw [b.eq]; clear b
 exact aA _ _ _<|ae<|mv z<|ba z z<|aj z<|nl<|ih _ _ _ H l m _ _ _ (gT J aP) ⟨z, z, z, z, tv⟩ aQ aR aT aU z
 refine nK v H fun H=>wf (bN v)<|wx<|?_
 cases H
 exact ⟨z, d, f, _, z, J, ⟨z, tv⟩, K, M, O, P, tv⟩
 rintro e r ds bz ⟨rfl, i, j, C, rfl, aV, b, aW, aX, aY, aZ, _⟩
 rw [b.eq]; clear b
 refine au _ _ _<|sr fun bA a0=>mv z<|aj z<|aj z<|nl<|a0 _ _ _<|wr<|have a2:=Hp.pick 2 [1] aW z;?_
 cases H
 exact ⟨.inr z, z, _, ⟨_, _, z, z, ⟨_, _, z, z, z⟩⟩, i, j, _, aV, a2, aX, aY, aZ, z⟩
theorem lV {a1 k G L w} (H : gx a1 = some k) (hI : Hp G L w) :
    Calls Tryz.prog 124 [string a1].toArray w fun e w' => ∃ (q : Option Addr) (s : Nat) (G' : Gh), G ≤ G' ∧ Hp G' (tk (slice q k.length s) 1 5 :: L) w' ∧ k.length ≤ s ∧ Dat (Kd.int .u8) G' q k ∧ Own q s ∧ e = .returned (slice q k.length s) := by
 refine ac (N := 22) Tryz.func124 z z (Nat.le_of_ble_eq_true z)<|?_
 unfold gx at H
 refine sr fun K2 F=>aj z<|nl<|F _ _ _<|sr fun K4 J=>aj z<|nl<|J _ _ _<|sQ fun K6 K=>sr fun K8 M=>aj z<|nl<|M _ _ _<|wb<|?_
 refine bK H fun l hC H=>aq (Q := fun e r ds w => e = .exit 0 ∧ ∃ (f : Option Addr) (g : Nat) (t : Gh), ds = [] ∧ G ≤ t ∧ Has [(3, slice f l.length g)] r ∧ Hp t (tk (slice f l.length g) 1 5 :: L) w ∧ l.length ≤ g ∧ Dat (Kd.int .u8) t f l ∧ Own f g ∧ True) ?_ ?_
 refine have O:=Hp.emp hI;aB fun I E=>?_
 refine eM.partial_correctness a1 (fun h a o => ∀ (c : Option Addr) (d : Nat) (m : Gh) (r : Rg) (w : World), G ≤ m → Has [(0, string a1), (3, slice c h.length d), (4, int .i64 a)] r → Hp m (tk (slice c h.length d) 1 5 :: L) w → h.length ≤ d → Dat (Kd.int .u8) m c h → Own c d → o = l → I r [] w) ?_ ([] : List Int) 0 _ hC none 0 _ _ _ gR ⟨rfl, rfl, rfl, tv⟩ O (show ([] : List Int).length ≤ 0 from Nat.le_refl 0) (Dat.nil _ _ _) Own.nil rfl
 intro _ ih h a o H c d m r aC C b x y A B ho
 rw [ho] at H; clear ho
 rw [b.eq]; clear b
 refine E _ _ _<|sQ fun aD P=>sr fun aE R=>mv z<|mv z<|cX fA z<|aN z z<|nl<|R _ _ _<|dC (a < (a1.size : Int)) (fun n=>?_) fun n=>?_
 refine yK n H fun H=>wt (bY n)<|ws<|P _ _ _<|sQ fun aF S=>bK H fun u hC H=>?_
 refine aq (Q := fun e r ds w => e = .normal ∧ ∃ (i : Option Addr) (j : Nat) (v : Gh), ds = [] ∧ m ≤ v ∧ Has [(0, string a1), (3, slice i u.length j), (4, int .i64 a)] r ∧ Hp v (tk (slice i u.length j) 1 5 :: L) w ∧ u.length ≤ j ∧ Dat (Kd.int .u8) v i u ∧ Own i j ∧ True) ?_ ?_
 refine have H:=hC;wb<|sr fun aG T=>mv z<|mv z<|iK H fun⟨U, V⟩H=>gc fA z z U V z<|dW z z<|nl<|T _ _ _<|dC (¬ (bt a1 a) = 126) (fun p=>?_) fun p=>?_
 refine yK p H fun H=>wt (bY p)<|ae<|mv z<|mv z<|mv z<|iK H fun⟨W, X⟩H=>gc fA z z W X z<|?_
 refine mm x (vs := [(0, int .u8 (bt a1 a))]) (cs := [int .u8 (bt a1 a)]) jM Ad rfl (by decide) rfl rfl (fun aH aI D => ?_)
 refine iK H fun aJ H=>?_
 refine lu (xs := h) (ys := [bt a1 a]) (Kd.int .u8) D 1 jM Ad rfl rfl rfl rfl B y A (jF D 0 sd rfl rfl) ⟨[int .u8 (bt a1 a)], _, rfl, rfl, rfl⟩ rfl (by simp only [List.length_cons, List.length_nil]; omega) (by simp only [List.length_cons, List.length_nil]; omega) (fun Y Z aK aL aa ab ad af ag => ?_)
 refine aj z<|nl<|have ah:=Hp.pick 2 [1] ag z;?_
 cases H
 exact ⟨z, Y, Z, _, z, aa, ⟨z, z, z, tv⟩, ah, ad, af, ab, tv⟩
 refine nK p H fun H=>wf (bN p)<|ws<|?_
 cases H
 exact ⟨z, c, d, _, z, gR, ⟨z, z, z, tv⟩, x, y, A, B, tv⟩
 rintro e r ds aM ⟨rfl, i, j, v, rfl, ai, b, ak, al, am, an, _⟩
 rw [b.eq]; clear b
 exact S _ _ _<|ae<|mv z<|ba z z<|aj z<|nl<|ih _ _ _ H i j _ _ _ (gT C ai) ⟨z, z, z, tv⟩ ak al am an z
 refine nK n H fun H=>wf (bN n)<|wx<|?_
 cases H
 exact ⟨z, c, d, _, z, C, ⟨z, tv⟩, x, y, A, B, tv⟩
 rintro e r ds aO ⟨rfl, f, g, t, rfl, ao, b, ap, ar, au, av, _⟩
 rw [b.eq]; clear b
 refine K _ _ _<|sr fun aP aw=>mv z<|aj z<|nl<|aw _ _ _<|wr<|?_
 cases H
 exact ⟨.inr z, z, _, ⟨_, _, z, z, z⟩, f, g, _, ao, ap, ar, au, av, z⟩
theorem iI {a1 a10 d f g h x y G L w} (H : cZ a1 a10 = some (x, y)) (hI : Hp G L w) (A : a1.Glyphs.length ≤ f) (B : Dat au G d a1.Glyphs) (C : a1.Kerns.length ≤ h) (D : Dat ay G g a1.Kerns) :
    Calls Tryz.prog 89 [agg [slice d a1.Glyphs.length f, slice g a1.Kerns.length h].toArray, string a10].toArray w fun e w' => Hp G L w' ∧ e = .returned (tuple [bool x, int .i64 y].toArray) := by
 refine ac (N := 35) Tryz.func89 z z (Nat.le_of_ble_eq_true z)<|?_
 unfold cZ at H
 refine sr fun aL U=>io hI z z fun i aM E=>aj z<|aj z<|nl<|U _ _ _<|sr fun aO V=>d9 E 0 fw z z z z<|bK H fun W X H=>cv BR (gW X E A B C D) z z fun aP Y=>aj z<|nl<|V _ _ _<|sr fun aQ Z=>?_
 refine mv z<|bK H fun aR aa H=>cv xh (cH aa Y) z z fun aS s=>aj z<|nl<|Z _ _ _<|sQ fun aT ab=>sr fun aU ad=>mv z<|be z<|mv z<|bK H fun F hC H=>js 3 s [(1, string a10), (2, pointer (some ⟨i, 0, none⟩)), (19, bool F)] ?_ fun _ aV J=>?_
 refine have H:=hC;dC ((!W) = true) (fun b=>?_) fun b=>?_
 refine yK b H fun H=>Sk 2 z z (vY b) z<|bR (vY b) z<|nl<|?_
 cases H
 exact je ⟨z, z, z, tv⟩ s
 refine nK b H fun H=>mv (hw:=gY z z z (vN b)) z<|be (hw:=gY z z z (vN b)) z<|b7 (vN b) z<|nl<|?_
 cases H
 exact je ⟨z, z, z, tv⟩ s
 refine nl<|ad _ _ _<|dC (F = true) (fun j=>?_) fun j=>?_
 refine yK j H fun H=>wt (vY j)<|sr fun aW af=>aj z<|aj z<|nl<|af _ _ _<|wr<|have ag:=Hp.pick 1 [] J z;?_
 cases H
 exact rt ⟨_, _, z, z, ⟨_, _, z, z, z⟩⟩ ag
 refine nK j H fun H=>wf (vN j)<|ws<|ab _ _ _<|sr fun aX ah=>mv z<|bK H fun c ai H=>fU (vs := [string a10]) CO z z (lV ai J)<|?_
 rintro _ aY ⟨n, p, t, q, ak, aZ, al, a0, rfl⟩
 refine ⟨_, rfl, ?_⟩
 refine aj z<|nl<|ah _ _ _<|sQ fun a2 am=>sr fun a3 an=>aj z<|nl<|an _ _ _<|wb<|bK H fun u hC H=>?_
 refine aq (Q := fun e r ds w => match (generalizing := false) u with | (Sum.inl _) => e = .ret ∧ ds = [] ∧ Has [(4, bool false), (5, int .i64 0)] r ∧ Hp t (bx i [slice d a1.Glyphs.length f, slice g a1.Kerns.length h] 25 :: tk (slice n c.length p) 1 5 :: L) w ∧ True | (Sum.inr _) => e = .exit 0 ∧ ds = [] ∧ Has [] r ∧ Hp t (bx i [slice d a1.Glyphs.length f, slice g a1.Kerns.length h] 25 :: tk (slice n c.length p) 1 5 :: L) w ∧ True) ?_ ?_
 refine have ao:=Hp.pick 2 [1, 0] ak z;aB fun I T=>?_
 refine eo.partial_correctness a1 c (fun k o => ∀ (r : Rg) (w : World), Has [(2, pointer (some ⟨i, 0, none⟩)), (8, slice n c.length p), (9, int .i64 k)] r → Hp t (bx i [slice d a1.Glyphs.length f, slice g a1.Kerns.length h] 25 :: tk (slice n c.length p) 1 5 :: L) w → o = u → I r [] w) ?_ 0 _ hC _ _ ⟨rfl, rfl, rfl, tv⟩ ao rfl
 intro _ ih k o H r a4 a K ho
 rw [ho] at H; clear ho
 rw [a.eq]; clear a
 refine T _ _ _<|sQ fun a5 ap=>sr fun a6 ar=>mv z<|mv z<|q_len sd z<|aN z z<|nl<|ar _ _ _<|dC (k < (c.length : Int)) (fun l=>?_) fun l=>?_
 refine yK l H fun H=>wt (bY l)<|ws<|ap _ _ _<|sQ fun a7 av=>wb<|sQ fun a8 aw=>?_
 refine ie K jD (by kernel_rfl) ?_
 refine di (fun Gq w hGq Iq=>d9 Iq 0 fw z z z z aK) z z<|di (fun Gq w hGq Iq=>mv z aK) z z<|di (fun Gq w hGq Iq=>mv z aK) z z<|iK H fun⟨M, O⟩H=>?_
 obtain ⟨a9, bb, ax, az, bc, aA⟩ := Dat.get al (0 : Int) (k) M O
 obtain rfl := az
 refine di (fun Gq w hGq Iq=>bP jM z ax z M O aK) z z<|di (fun Gq w hGq Iq=>fO Iq p6 z (hGq.cel _ _ (aA 0 _ z)) aK) z z<|bK H fun P aC H=>wk (vs := [agg [slice d a1.Glyphs.length f, slice g a1.Kerns.length h].toArray, int .u8 (c.getD (Int.toNat k) (0 : Int))]) (v := int .i64 P) Ci z z (fun Gq w hGq Iq => ?_) ?_
 refine Calls.mono (gS aC Iq A (Dat.mono (gT q hGq) B) C (Dat.mono (gT q hGq) D))<|?_
 rintro _ w2 ⟨I2, rfl⟩
 exact ⟨z, _, hGq, I2⟩
 refine di (fun Gq w hGq Iq=>aN z z aK) z z<|wz fun bf bg R S=>aw _ _ _<|dC (P < 0) (fun m=>?_) fun m=>?_
 refine yK m H fun H=>wt (bY m)<|sr fun bh aE=>aj z<|aj z<|nl<|aE _ _ _<|wr<|?_
 cases H
 exact ⟨z, z, ⟨z, z, tv⟩, (Hp.low R S), tv⟩
 exact nK m H fun H=>wf (bN m)<|ws<|av _ _ _<|ae<|mv z<|ba z z<|aj z<|nl<|ih _ _ H _ _ ⟨z, z, z, tv⟩ (Hp.low R S) z
 refine nK l H fun H=>wf (bN l)<|wx<|?_
 cases H
 exact ⟨z, z, trivial, K, tv⟩
 rcases u with _ | _
 rintro e r ds bi ⟨rfl, rfl, a, aF, _⟩
 rw [a.eq]; clear a
 refine have aG:=Hp.pick 2 [] aF z;?_
 cases H
 exact rt ⟨_, _, z, z, ⟨_, _, z, z, z⟩⟩ (Hp.low q aG)
 rintro e r ds bj ⟨rfl, rfl, a, aH, _⟩
 rw [a.eq]; clear a
 refine am _ _ _<|sr fun bk aI=>aj z<|aj z<|nl<|aI _ _ _<|wr<|have aJ:=Hp.pick 2 [] aH z;?_
 cases H
 exact rt ⟨_, _, z, z, ⟨_, _, z, z, z⟩⟩ (Hp.low q aJ)
theorem px {a1 a10 t V l m n p j k u W G L w} (H : iU a1 a10 t V = some (u, W)) (hI : Hp G L w) (J : a1.Glyphs.length ≤ m) (K : Dat au G l a1.Glyphs) (M : a1.Kerns.length ≤ p) (O : Dat ay G n a1.Kerns) (am : a10.Keep.length ≤ k) (an : Dat Kd.str G j a10.Keep) :
    Calls Tryz.prog 56 [agg [slice l a1.Glyphs.length m, slice n a1.Kerns.length p].toArray, agg [int .i64 a10.Before, int .i64 a10.Behind, slice j a10.Keep.length k].toArray, string t, int .i64 V].toArray w fun e w' => ∃ (C : Option Addr) (D : Nat) (G' : Gh), G ≤ G' ∧ Hp G' (tk (slice C u.length D) 2 114 :: L) w' ∧ u.length ≤ D ∧ Dat aS G' C u ∧ Own C D ∧ e = .returned (tuple [slice C u.length D, int .i64 W].toArray) := by
 refine ac (N := 68) Tryz.func56 z z (Nat.le_of_ble_eq_true z)<|?_
 unfold iU at H
 refine sr fun bl ao=>io hI z z fun q bm ap=>io ap z z fun E bn X=>aj z<|aj z<|nl<|ao _ _ _<|sr fun bo ar=>d9 X 1 fw z z z z<|bK H fun av aw H=>cv BR (gW aw X J K M O) z z fun bp Y=>aj z<|nl<|ar _ _ _<|?_
 refine sr fun bq ax=>d9 Y 0 jT z z z z<|mv z<|iJ H fun a br az H=>fU (vs := [agg [int .i64 a10.Before, int .i64 a10.Behind, slice j a10.Keep.length k].toArray, string t]) bo88 z z (p9 az Y am an)<|?_
 rintro _ bs ⟨b, c, F, f, aA, aC, Z, aD, rfl⟩
 refine ⟨_, rfl, ?_⟩
 refine mv z<|cK z z<|cK z z<|aj z<|aj z<|nl<|ax _ _ _<|sr fun bt aE=>mv z<|bK H fun aF aH H=>cv DN (lA aH aA) z z fun bu aa=>aj z<|nl<|aE _ _ _<|?_
 refine sQ fun bv aI=>sr fun bw aJ=>mv z<|be z<|mv z<|bK H fun ab hC H=>?_
 refine jS 3 F [(2, string t), (4, pointer (some ⟨q, 0, none⟩)), (11, slice b a.length c), (13, bool aF), (34, bool ab)] (bx E [int .i64 a10.Before, int .i64 a10.Behind, slice j a10.Keep.length k] 28 :: bx q [slice l a1.Glyphs.length m, slice n a1.Kerns.length p] 25 :: tk (slice b a.length c) 2 114 :: L) ?_ fun _ bz P=>?_
 refine have H:=hC;dC ((!av) = true) (fun g=>?_) fun g=>?_
 refine yK g H fun H=>Sk 2 z z (vY g) z<|bR (vY g) z<|nl<|have aK:=Hp.pick 3 [1, 2, 0] aa z;?_
 cases H
 exact je ⟨z, z, z, z, z, tv⟩ aK
 refine nK g H fun H=>mv (hw:=gY z z z (vN g)) z<|dW (hw:=gY z z z (vN g)) z z<|b7 (vN g) z<|nl<|have aL:=Hp.pick 3 [1, 2, 0] aa z;?_
 cases H
 exact je ⟨z, z, z, z, z, tv⟩ aL
 refine mv z<|bK H fun ad hC H=>js 3 P [(2, string t), (4, pointer (some ⟨q, 0, none⟩)), (11, slice b a.length c), (38, bool ad)] ?_ fun _ bA R=>?_
 refine have H:=hC;dC (ab = true) (fun h=>?_) fun h=>?_
 refine yK h H fun H=>Sk 2 z z (vY h) z<|bR (vY h) z<|nl<|?_
 cases H
 exact je ⟨z, z, z, z, tv⟩ P
 refine nK h H fun H=>mv (hw:=gY z z z (vN h)) z<|be (hw:=gY z z z (vN h)) z<|b7 (vN h) z<|nl<|?_
 cases H
 exact je ⟨z, z, z, z, tv⟩ P
 refine nl<|aJ _ _ _<|dC (ad = true) (fun v=>?_) fun v=>?_
 refine yK v H fun H=>wt (vY v)<|sr fun bB aM=>aj z<|aj z<|nl<|aM _ _ _<|wr<|have aO:=Hp.emp R;have aP:=Hp.pick 4 [0] aO z;?_
 cases H
 exact ⟨.inr z, z, _, ⟨_, _, z, z, ⟨_, _, z, z, z⟩⟩, none, 0, _, f, aP, (show ([] : List ah).length ≤ 0 from Nat.le_refl 0), (Dat.nil _ _ _), Own.nil, z⟩
 refine nK v H fun H=>wf (vN v)<|ws<|aI _ _ _<|sr fun bC aQ=>d9 R 1 fw z z z z<|mv z<|iJ H fun aR bD aT H=>cv Cv (iI aT R J (Dat.mono f K) M (Dat.mono f O)) z z fun bE S=>mv z<|cK z z<|cK z z<|aj z<|aj z<|?_
 refine nl<|aQ _ _ _<|sQ fun bF aU=>sr fun bG aV=>mv z<|be z<|nl<|aV _ _ _<|dC ((!aR) = true) (fun x=>?_) fun x=>?_
 refine yK x H fun H=>wt (vY x)<|sr fun bH aW=>aj z<|aj z<|nl<|aW _ _ _<|wr<|have aX:=Hp.emp S;have aY:=Hp.pick 4 [0] aX z;?_
 cases H
 exact ⟨.inr z, z, _, ⟨_, _, z, z, ⟨_, _, z, z, z⟩⟩, none, 0, _, f, aY, (show ([] : List ah).length ≤ 0 from Nat.le_refl 0), (Dat.nil _ _ _), Own.nil, z⟩
 refine nK x H fun H=>wf (vN x)<|ws<|aU _ _ _<|sr fun bI aZ=>d9 S 1 fw z z z z<|iJ H fun T bJ a0 H=>cv Cv (iI a0 S J (Dat.mono f K) M (Dat.mono f O)) z z fun bL a2=>mv z<|cK z z<|cK z z<|aj z<|aj z<|nl<|?_
 refine aZ _ _ _<|sQ fun bM a3=>sr fun bO a4=>aj z<|nl<|a4 _ _ _<|wb<|bK H fun U hC H=>?_
 refine aq (Q := fun e r ds w => match (generalizing := false) U with | (Sum.inl _) => e = .ret ∧ ds = [] ∧ Has [(8, slice none 0 0), (9, int .i64 20)] r ∧ Hp F (bx E [int .i64 a10.Before, int .i64 a10.Behind, slice j a10.Keep.length k] 28 :: bx q [slice l a1.Glyphs.length m, slice n a1.Kerns.length p] 25 :: tk (slice b a.length c) 2 114 :: L) w ∧ True | (Sum.inr _) => e = .exit 0 ∧ ds = [] ∧ Has [(11, slice b a.length c)] r ∧ Hp F (bx E [int .i64 a10.Before, int .i64 a10.Behind, slice j a10.Keep.length k] 28 :: bx q [slice l a1.Glyphs.length m, slice n a1.Kerns.length p] 25 :: tk (slice b a.length c) 2 114 :: L) w ∧ True) ?_ ?_
 refine aB fun I al=>?_
 refine dj.partial_correctness a T (fun s o => ∀ (r : Rg) (w : World), Has [(11, slice b a.length c), (16, bool T), (18, int .i64 s)] r → Hp F (bx E [int .i64 a10.Before, int .i64 a10.Behind, slice j a10.Keep.length k] 28 :: bx q [slice l a1.Glyphs.length m, slice n a1.Kerns.length p] 25 :: tk (slice b a.length c) 2 114 :: L) w → o = U → I r [] w) ?_ 0 _ hC _ _ ⟨rfl, rfl, rfl, tv⟩ a2 rfl
 intro _ ih s o H r bQ d y ho
 rw [ho] at H; clear ho
 rw [d.eq]; clear d
 refine al _ _ _<|sQ fun bS a5=>sr fun bT a6=>mv z<|mv z<|q_len vU z<|aN z z<|nl<|a6 _ _ _<|dC (s < (a.length : Int)) (fun A=>?_) fun A=>?_
 refine yK A H fun H=>wt (bY A)<|ws<|a5 _ _ _<|sQ fun bU a7=>wb<|sr fun bV a8=>mv z<|mv z<|iK H fun⟨af, ag⟩H=>?_
 obtain ⟨bW, bX, a9, bb, bZ, bc⟩ := Dat.get Z aG (s) af ag
 obtain ⟨rfl⟩ := dU bb
 refine bP p7 z a9 z af ag<|lf rE z z<|fO y zU z (gR.cel _ _ (bc 1 _ z))<|mv z<|bK H fun ai hC H=>js 3 y [(11, slice b a.length c), (16, bool T), (18, int .i64 s), (66, bool ai)] ?_ fun _ b0 ak=>?_
 refine have H:=hC;dC (((a.getD (Int.toNat s) aG).Hyphen) = true) (fun i=>?_) fun i=>?_
 refine yK i H fun H=>mv (hw:=gY z z z (vY i)) z<|be (hw:=gY z z z (vY i)) z<|bR (vY i) z<|nl<|?_
 cases H
 exact je ⟨z, z, z, z, tv⟩ y
 refine nK i H fun H=>Sk 2 z z (vN i) z<|b7 (vN i) z<|nl<|?_
 cases H
 exact je ⟨z, z, z, z, tv⟩ y
 refine nl<|a8 _ _ _<|dC (ai = true) (fun B=>?_) fun B=>?_
 refine yK B H fun H=>wt (vY B)<|sr fun b1 bd=>aj z<|aj z<|nl<|bd _ _ _<|wr<|?_
 cases H
 exact ⟨z, z, ⟨z, z, tv⟩, ak, tv⟩
 exact nK B H fun H=>wf (vN B)<|ws<|a7 _ _ _<|ae<|mv z<|ba z z<|aj z<|nl<|ih _ _ H _ _ ⟨z, z, z, tv⟩ ak z
 refine nK A H fun H=>wf (bN A)<|wx<|?_
 cases H
 exact ⟨z, z, ⟨z, tv⟩, y, tv⟩
 rcases U with _ | _
 rintro e r ds b2 ⟨rfl, rfl, d, bf, _⟩
 rw [d.eq]; clear d
 refine have bg:=Hp.emp bf;have bh:=Hp.pick 4 [0] bg z;?_
 cases H
 exact ⟨.inr z, z, _, ⟨_, _, z, z, ⟨_, _, z, z, z⟩⟩, none, 0, _, f, bh, (show ([] : List ah).length ≤ 0 from Nat.le_refl 0), (Dat.nil _ _ _), Own.nil, z⟩
 rintro e r ds b3 ⟨rfl, rfl, d, bi, _⟩
 rw [d.eq]; clear d
 refine a3 _ _ _<|sr fun b4 bj=>mv z<|aj z<|aj z<|nl<|bj _ _ _<|wr<|have bk:=Hp.pick 3 [2] bi z;?_
 cases H
 exact ⟨.inr z, z, _, ⟨_, _, z, z, ⟨_, _, z, z, z⟩⟩, b, c, _, f, bk, aC, Z, aD, z⟩
theorem pE {a1 b c G L w} (H : iS a1 = some (b, c)) (hI : Hp G L w) :
    Calls Tryz.prog 91 [string a1].toArray w fun e w' => Hp G L w' ∧ e = .returned (tuple [string b, int .i64 c].toArray) := by
 refine ac (N := 9) Tryz.func91 z z (Nat.le_of_ble_eq_true z)<|?_
 unfold iS at H
 refine sr fun o f=>aj z<|aj z<|nl<|f _ _ _<|sQ fun p g=>sr fun q h=>mv z<|bK H fun i j H=>cv xh (cH j hI) z z fun r d=>be z<|nl<|h _ _ _<|dC ((!i) = true) (fun a=>?_) fun a=>?_
 refine yK a H fun H=>wt (vY a)<|sr fun s k=>aj z<|aj z<|nl<|k _ _ _<|wr<|?_
 cases H
 exact rt ⟨_, _, z, z, ⟨_, _, z, z, z⟩⟩ d
 refine nK a H fun H=>wf (vN a)<|ws<|g _ _ _<|sr fun t l=>mv z<|bK H fun u m H=>cv EZ (lZ m d) z z fun v n=>aj z<|aj z<|nl<|l _ _ _<|wr<|?_
 cases H
 exact rt ⟨_, _, z, z, ⟨_, _, z, z, z⟩⟩ n
theorem qh {a1 q s G L w} (H : jl a1 = some (q, s)) (hI : Hp G L w) :
    Calls Tryz.prog 92 [string a1].toArray w fun e w' => Hp G L w' ∧ e = .returned (tuple [string q, int .i64 s].toArray) := by
 refine ac (N := 34) Tryz.func92 z z (Nat.le_of_ble_eq_true z)<|?_
 unfold jl at H
 refine sr fun K2 B=>aj z<|aj z<|nl<|B _ _ _<|sQ fun K4 C=>sr fun K6 D=>mv z<|bK H fun E F H=>cv xh (cH F hI) z z fun ak t=>be z<|nl<|D _ _ _<|dC ((!E) = true) (fun d=>?_) fun d=>?_
 refine yK d H fun H=>wt (vY d)<|sr fun al J=>aj z<|aj z<|nl<|J _ _ _<|wr<|?_
 cases H
 exact rt ⟨_, _, z, z, ⟨_, _, z, z, z⟩⟩ t
 refine nK d H fun H=>wf (vN d)<|ws<|C _ _ _<|sQ fun am K=>wb<|bK H fun m hC H=>aq (Q := fun e r ds w => e = .exit 0 ∧ ds = [] ∧ Has [(0, string m)] r ∧ Hp G (L) w ∧ True) ?_ ?_
 refine aB fun I k=>?_
 refine fc.partial_correctness (fun f o => ∀ (r : Rg) (w : World), Has [(0, string f)] r → Hp G (L) w → o = m → I r [] w) ?_ a1 _ hC _ _ ⟨rfl, tv⟩ t rfl
 intro _ ih f o H r an b n ho
 rw [ho] at H; clear ho
 rw [b.eq]; clear b
 refine k _ _ _<|sQ fun ao M=>sr fun ap O=>mv z<|cX fA z<|cc z z<|mv z<|bK H fun u hC H=>js 4 n [(0, string f), (14, bool u)] ?_ fun _ ar v=>?_
 refine have H:=hC;dC (0 < (f.size : Int)) (fun c=>?_) fun c=>?_
 refine yK c H fun H=>mv (hw:=gY z z z (bY c)) z<|iK H fun⟨P, R⟩H=>gc (hw:=gY z z z (bY c)) fA z z P R z<|bA (hw:=gY z z z (bY c)) z z<|bR (bY c) z<|nl<|?_
 cases H
 exact je ⟨z, z, tv⟩ n
 refine nK c H fun H=>Sk 3 z z (bN c) z<|b7 (bN c) z<|nl<|?_
 cases H
 exact je ⟨z, z, tv⟩ n
 refine nl<|O _ _ _<|dC (u = true) (fun g=>?_) fun g=>?_
 exact yK g H fun H=>wt (vY g)<|ws<|M _ _ _<|wb<|ae<|mv z<|iK H fun⟨S, T⟩H=>ug (l := 1) (h := (f.size : Int)) fA z (.inr ⟨_, z, z⟩) (.inl ⟨z, z⟩) S T (Int.le_refl _)<|aj z<|nl<|ih _ _ H _ _ ⟨z, tv⟩ v z
 refine nK g H fun H=>wf (vN g)<|wx<|?_
 cases H
 exact ⟨z, z, ⟨z, tv⟩, v, tv⟩
 rintro e r ds au ⟨rfl, rfl, b, U, _⟩
 rw [b.eq]; clear b
 refine K _ _ _<|sQ fun av V=>wb<|bK H fun x hC H=>aq (Q := fun e r ds w => e = .exit 2 ∧ ds = [] ∧ Has [(0, string x)] r ∧ Hp G (L) w ∧ True) ?_ ?_
 refine aB fun I k=>?_
 refine e8.partial_correctness (fun i o => ∀ (r : Rg) (w : World), Has [(0, string i)] r → Hp G (L) w → o = x → I r [] w) ?_ m _ hC _ _ ⟨rfl, tv⟩ U rfl
 intro _ ih i o H r aw b p ho
 rw [ho] at H; clear ho
 rw [b.eq]; clear b
 refine k _ _ _<|sQ fun ay W=>sr fun az X=>mv z<|cX fA z<|cc z z<|mv z<|bK H fun y hC H=>js 7 p [(0, string i), (27, bool y)] ?_ fun _ aA A=>?_
 refine have H:=hC;dC (0 < (i.size : Int)) (fun a=>?_) fun a=>?_
 refine yK a H fun H=>mv (hw:=gY z z z (bY a)) z<|mv (hw:=gY z z z (bY a)) z<|cX (hw:=gY z z z (bY a)) fA z<|dl (hw:=gY z z z (bY a)) z z<|iK H fun⟨Y, Z⟩H=>gc (hw:=gY z z z (bY a)) fA z z Y Z z<|bA (hw:=gY z z z (bY a)) z z<|bR (bY a) z<|nl<|?_
 cases H
 exact je ⟨z, z, tv⟩ p
 refine nK a H fun H=>Sk 6 z z (bN a) z<|b7 (bN a) z<|nl<|?_
 cases H
 exact je ⟨z, z, tv⟩ p
 refine nl<|X _ _ _<|dC (y = true) (fun j=>?_) fun j=>?_
 refine yK j H fun H=>wt (vY j)<|ws<|W _ _ _<|wb<|ae<|mv z<|mv z<|cX fA z<|dl z z<|iK H fun⟨aa, ab⟩H=>ug (l := 0) (h := ax ((i.size : Int) - 1)) fA z (.inl ⟨z, z⟩) (.inr ⟨_, z, z⟩) (Int.le_refl 0) aa ab<|aj z<|nl<|?_
 exact ih _ _ H _ _ ⟨z, tv⟩ A z
 refine nK j H fun H=>wf (vN j)<|wx<|?_
 cases H
 exact ⟨z, z, ⟨z, tv⟩, A, tv⟩
 rintro e r ds aC ⟨rfl, rfl, b, ad, _⟩
 rw [b.eq]; clear b
 refine V _ _ _<|sr fun aD af=>mv z<|aj z<|aj z<|nl<|af _ _ _<|wr<|?_
 cases H
 exact rt ⟨_, _, z, z, ⟨_, _, z, z, z⟩⟩ ad
theorem mB {a1 a2 b a4 c G L w} (H : ii a1 a2 b a4 = some c) (hI : Hp G L w) :
    Calls Tryz.prog 60 [string a1, int .i64 a2, int .i64 b, bool a4].toArray w fun e w' => Hp G L w' ∧ e = .returned (string c) := by
 refine ac (N := 30) Tryz.func60 z z (Nat.le_of_ble_eq_true z)<|?_
 unfold ii at H
 refine sr fun v f=>aj z<|nl<|f _ _ _<|sr fun x g=>mv z<|mv z<|mv z<|iK H fun⟨i, j, k⟩H=>ug (l := a2) (h := b) fA z (.inr ⟨_, z, z⟩) (.inr ⟨_, z, z⟩) i j k<|iJ H fun y A m H=>cv bo91 (pE m hI) z z fun B n=>mv z<|cK z z<|?_
 refine cK z z<|aj z<|aj z<|nl<|g _ _ _<|sr fun C o=>mv z<|iJ H fun D E p H=>cv bo92 (qh p n) z z fun F d=>mv z<|cK z z<|cK z z<|aj z<|aj z<|?_
 refine nl<|o _ _ _<|sQ fun I q=>sr fun J r=>mv z<|nl<|r _ _ _<|dC (a4 = true) (fun a=>?_) fun a=>?_
 refine yK a H fun H=>wt (vY a)<|sr fun K s=>mv z<|iK H fun t H=>sm z z t<|aj z<|nl<|s _ _ _<|wr<|?_
 cases H
 exact rt ⟨_, _, z, z, z⟩ d
 refine nK a H fun H=>wf (vN a)<|ws<|q _ _ _<|sr fun M u=>mv z<|aj z<|nl<|u _ _ _<|wr<|?_
 cases H
 exact rt ⟨_, _, z, z, z⟩ d
theorem pR {a1 a10 f g h i j s G L w} (H : jj a1 a10 f = some s) (hI : Hp G L w) (ak : a1.Glyphs.length ≤ h) (al : Dat au G g a1.Glyphs) (an : a1.Kerns.length ≤ j) (p : Dat ay G i a1.Kerns) :
    Calls Tryz.prog 125 [agg [slice g a1.Glyphs.length h, slice i a1.Kerns.length j].toArray, int .u8 a10, int .u8 f].toArray w fun e w' => Hp G L w' ∧ e = .returned (int .i64 s) := by
 refine ac (N := 39) Tryz.func125 z z (Nat.le_of_ble_eq_true z)<|?_
 unfold jj at H
 refine sr fun ao E=>io hI z z fun k ap F=>aj z<|nl<|E _ _ _<|sQ fun ar J=>sr fun av K=>aj z<|nl<|K _ _ _<|wb<|bK H fun q hC H=>?_
 refine aq (Q := fun e r ds w => match (generalizing := false) q with | (Sum.inl t) => e = .ret ∧ ds = [] ∧ Has [(6, int .i64 t)] r ∧ Hp G (bx k [slice g a1.Glyphs.length h, slice i a1.Kerns.length j] 25 :: L) w ∧ True | (Sum.inr _) => e = .exit 0 ∧ ds = [] ∧ Has [] r ∧ Hp G (bx k [slice g a1.Glyphs.length h, slice i a1.Kerns.length j] 25 :: L) w ∧ True) ?_ ?_
 refine aB fun I D=>?_
 refine dM.partial_correctness a1 a10 f (fun d o => ∀ (r : Rg) (w : World), Has [(1, int .u8 a10), (2, int .u8 f), (3, pointer (some ⟨k, 0, none⟩)), (7, int .i64 d)] r → Hp G (bx k [slice g a1.Glyphs.length h, slice i a1.Kerns.length j] 25 :: L) w → o = q → I r [] w) ?_ 0 _ hC _ _ ⟨rfl, rfl, rfl, rfl, tv⟩ F rfl
 intro _ ih d o H r aw c b ho
 rw [ho] at H; clear ho
 rw [c.eq]; clear c
 refine D _ _ _<|sQ fun ax M=>sr fun az O=>mv z<|fa kX z<|ld b 0 qV z z z<|q_len x6 z<|aN z z<|nl<|O _ _ _<|dC (d < (a1.Kerns.length : Int)) (fun l=>?_) fun l=>?_
 refine yK l H fun H=>wt (bY l)<|ws<|M _ _ _<|sQ fun aA P=>wb<|sr fun aC R=>fa kX z<|ld b 0 qV z z z<|mv z<|iK H fun⟨u, v⟩H=>?_
 obtain ⟨aD, aE, S, T, aF, U⟩ := Dat.get p am (d) u v
 obtain ⟨rfl⟩ := dB T
 refine bP s8 z S z u v<|lf mU z z<|fO b p6 z (gR.cel _ _ (U 0 _ z))<|mv z<|bA z z<|mv z<|bK H fun x hC H=>js 9 b [(1, int .u8 a10), (2, int .u8 f), (3, pointer (some ⟨k, 0, none⟩)), (7, int .i64 d), (32, bool x)] ?_ fun _ aG n=>?_
 refine have H:=hC;dC (((a1.Kerns.getD (Int.toNat d) am).Left) = a10) (fun a=>?_) fun a=>?_
 refine yK a H fun H=>fa (hw:=gY z z z (bY a)) kX z<|ld (hw:=gY z z z (bY a)) b 0 qV z z z<|mv (hw:=gY z z z (bY a)) z<|iK H fun⟨y, A⟩H=>?_
 obtain ⟨aH, aI, V, W, aJ, X⟩ := Dat.get p am (d) y A
 obtain ⟨rfl⟩ := dB W
 refine bP (hw:=gY z z z (bY a)) s8 z V z y A<|lf (hw:=gY z z z (bY a)) pn z z<|fO (hw:=gY z z z (bY a)) b p6 z (gR.cel _ _ (X 1 _ z))<|mv (hw:=gY z z z (bY a)) z<|bA (hw:=gY z z z (bY a)) z z<|bR (bY a) z<|nl<|?_
 cases H
 exact je ⟨z, z, z, z, z, tv⟩ b
 refine nK a H fun H=>Sk 8 z z (bN a) z<|b7 (bN a) z<|nl<|?_
 cases H
 exact je ⟨z, z, z, z, z, tv⟩ b
 refine nl<|R _ _ _<|dC (x = true) (fun m=>?_) fun m=>?_
 refine yK m H fun H=>wt (vY m)<|sr fun aK Y=>fa kX z<|ld n 0 qV z z z<|mv z<|iK H fun⟨B, C⟩H=>?_
 obtain ⟨aL, aM, Z, aa, aO, ab⟩ := Dat.get p am (d) B C
 obtain ⟨rfl⟩ := dB aa
 refine bP s8 z Z z B C<|lf o2 z z<|fO n bv z (gR.cel _ _ (ab 2 _ z))<|aj z<|nl<|Y _ _ _<|wr<|?_
 cases H
 exact ⟨z, z, ⟨z, tv⟩, n, tv⟩
 exact nK m H fun H=>wf (vN m)<|ws<|P _ _ _<|ae<|mv z<|ba z z<|aj z<|nl<|ih _ _ H _ _ ⟨z, z, z, z, tv⟩ n z
 refine nK l H fun H=>wf (bN l)<|wx<|?_
 cases H
 exact ⟨z, z, trivial, b, tv⟩
 rcases q with t | _
 rintro e r ds aP ⟨rfl, rfl, c, ad, _⟩
 rw [c.eq]; clear c
 refine have af:=Hp.pick 1 [] ad z;?_
 cases H
 exact rt ⟨_, _, z, z, z⟩ af
 rintro e r ds aQ ⟨rfl, rfl, c, ag, _⟩
 rw [c.eq]; clear c
 refine J _ _ _<|sr fun aR ah=>aj z<|nl<|ah _ _ _<|wr<|have ai:=Hp.pick 1 [] ag z;?_
 cases H
 exact rt ⟨_, _, z, z, z⟩ ai
theorem qy {a1 a10 c d f g E F G L w} (H : j2 a1 a10 = some (E, F)) (hI : Hp G L w) (u : a1.Glyphs.length ≤ d) (p : Dat au G c a1.Glyphs) (x : a1.Kerns.length ≤ g) (y : Dat ay G f a1.Kerns) :
    Calls Tryz.prog 93 [agg [slice c a1.Glyphs.length d, slice f a1.Kerns.length g].toArray, string a10].toArray w fun e w' => Hp G L w' ∧ e = .returned (tuple [int .i64 E, int .i64 F].toArray) := by
 refine ac (N := 59) Tryz.func93 z z (Nat.le_of_ble_eq_true z)<|?_
 unfold j2 at H
 refine sr fun bc ab=>io hI z z fun q bd J=>aj z<|aj z<|nl<|ab _ _ _<|sr fun bf ad=>d9 J 0 fw z z z z<|mv z<|iJ H fun af ag ah H=>cv Cv (iI ah J u p x y) z z fun bg A=>mv z<|cK z z<|cK z z<|?_
 refine aj z<|aj z<|nl<|ad _ _ _<|sQ fun bh ai=>sr fun bi ak=>mv z<|dW z z<|nl<|ak _ _ _<|dC (¬ ag = 0) (fun k=>?_) fun k=>?_
 refine yK k H fun H=>wt (bY k)<|sr fun bj al=>mv z<|aj z<|aj z<|nl<|al _ _ _<|wr<|have am:=Hp.pick 1 [] A z;?_
 cases H
 exact rt ⟨_, _, z, z, ⟨_, _, z, z, z⟩⟩ am
 refine nK k H fun H=>wf (bN k)<|ws<|ai _ _ _<|sQ fun bk an=>sr fun bl ap=>mv z<|be z<|nl<|ap _ _ _<|dC ((!af) = true) (fun l=>?_) fun l=>?_
 refine yK l H fun H=>wt (vY l)<|sr fun bm ar=>aj z<|aj z<|nl<|ar _ _ _<|wr<|have av:=Hp.pick 1 [] A z;?_
 cases H
 exact rt ⟨_, _, z, z, ⟨_, _, z, z, z⟩⟩ av
 refine nK l H fun H=>wf (vN l)<|ws<|an _ _ _<|sr fun bn aw=>mv z<|bK H fun b az H=>fU (vs := [string a10]) CO z z (lV az A)<|?_
 rintro _ bo ⟨s, t, K, h, aA, bp, B, bq, rfl⟩
 refine ⟨_, rfl, ?_⟩
 refine aj z<|nl<|aw _ _ _<|sr fun br aC=>aj z<|nl<|aC _ _ _<|sQ fun bs aD=>sr fun bt aE=>aj z<|nl<|aE _ _ _<|wb<|bK H fun M hC H=>?_
 refine aq (Q := fun e r ds w => e = .exit 0 ∧ ds = [] ∧ Has [(9, int .i64 M)] r ∧ Hp K (bx q [slice c a1.Glyphs.length d, slice f a1.Kerns.length g] 25 :: tk (slice s b.length t) 1 5 :: L) w ∧ True) ?_ ?_
 refine have aF:=Hp.pick 2 [1, 0] aA z;aB fun I aa=>?_
 refine er.partial_correctness a1 b (fun O a o => ∀ (r : Rg) (w : World), Has [(2, pointer (some ⟨q, 0, none⟩)), (8, slice s b.length t), (9, int .i64 O), (10, int .i64 a)] r → Hp K (bx q [slice c a1.Glyphs.length d, slice f a1.Kerns.length g] 25 :: tk (slice s b.length t) 1 5 :: L) w → o = M → I r [] w) ?_ 0 0 _ hC _ _ ⟨rfl, rfl, rfl, rfl, tv⟩ aF rfl
 intro _ ih O a o H r bu j C ho
 rw [ho] at H; clear ho
 rw [j.eq]; clear j
 refine aa _ _ _<|sQ fun bw aG=>sr fun bz aH=>mv z<|mv z<|q_len sd z<|aN z z<|nl<|aH _ _ _<|dC (a < (b.length : Int)) (fun m=>?_) fun m=>?_
 refine yK m H fun H=>wt (bY m)<|ws<|aG _ _ _<|sQ fun bA aI=>bK H fun aJ hC H=>jc .normal C [(2, pointer (some ⟨q, 0, none⟩)), (8, slice s b.length t), (9, int .i64 aJ), (10, int .i64 a)] ?_ fun _ bB aL=>?_
 refine have H:=hC;wb<|sQ fun bC aM=>?_
 refine ie C jD (by kernel_rfl) ?_
 refine di (fun Gq w hGq Iq=>mv z aK) z z<|di (fun Gq w hGq Iq=>fa kK z aK) z z<|di (fun Gq w hGq Iq=>ld Iq 0 rd z z z aK) z z<|di (fun Gq w hGq Iq=>d9 Iq 0 fw z z z z aK) z z<|di (fun Gq w hGq Iq=>mv z aK) z z<|di (fun Gq w hGq Iq=>mv z aK) z z<|iK H fun⟨P, R⟩H=>?_
 obtain ⟨bD, bE, aO, aP, bF, aQ⟩ := Dat.get B (0 : Int) (a) P R
 obtain rfl := aP
 refine di (fun Gq w hGq Iq=>bP jM z aO z P R aK) z z<|di (fun Gq w hGq Iq=>fO Iq p6 z (hGq.cel _ _ (aQ 0 _ z)) aK) z z<|bK H fun S aR H=>wk (vs := [agg [slice c a1.Glyphs.length d, slice f a1.Kerns.length g].toArray, int .u8 (b.getD (Int.toNat a) (0 : Int))]) (v := int .i64 S) Ci z z (fun Gq w hGq Iq => ?_) ?_
 refine Calls.mono (gS aR Iq u (Dat.mono (gT h hGq) p) x (Dat.mono (gT h hGq) y))<|?_
 rintro _ w2 ⟨D, rfl⟩
 exact ⟨z, _, hGq, D⟩
 refine iK H fun⟨T, U⟩H=>?_
 obtain ⟨bG, bH, aT, aU, bI, aV⟩ := Dat.get (Dat.mono h p) ao (S) T U
 obtain ⟨rfl⟩ := dX aU
 refine di (fun Gq w hGq Iq=>bP su z aT z T U aK) z z<|di (fun Gq w hGq Iq=>lf oa z z aK) z z<|di (fun Gq w hGq Iq=>fO Iq bv z (hGq.cel _ _ (aV 1 _ z)) aK) z z<|di (fun Gq w hGq Iq=>ba z z aK) z z<|di (fun Gq w hGq Iq=>aj z aK) z z<|wz fun bJ bL i V=>aM _ _ _<|sr fun bM aW=>mv z<|cc z z<|nl<|aW _ _ _<|dC (0 < a) (fun n=>?_) fun n=>?_
 refine yK n H fun H=>wt (bY n)<|?_
 refine ie V jD (by kernel_rfl) ?_
 refine di (fun Gq w hGq Iq=>mv z aK) z z<|di (fun Gq w hGq Iq=>d9 Iq 0 fw z z z z aK) z z<|di (fun Gq w hGq Iq=>mv z aK) z z<|di (fun Gq w hGq Iq=>mv z aK) z z<|di (fun Gq w hGq Iq=>dl z z aK) z z<|iK H fun⟨W, X⟩H=>?_
 obtain ⟨bO, bQ, aX, aY, bR, aZ⟩ := Dat.get (Dat.mono i B) (0 : Int) (ax (a - 1)) W X
 obtain rfl := aY
 refine di (fun Gq w hGq Iq=>bP jM z aX z W X aK) z z<|di (fun Gq w hGq Iq=>fO Iq p6 z (hGq.cel _ _ (aZ 0 _ z)) aK) z z<|di (fun Gq w hGq Iq=>mv z aK) z z<|di (fun Gq w hGq Iq=>mv z aK) z z<|iK H fun⟨Y, Z⟩H=>?_
 obtain ⟨bS, bT, a0, a2, bU, a3⟩ := Dat.get (Dat.mono i B) (0 : Int) (a) Y Z
 obtain rfl := a2
 refine di (fun Gq w hGq Iq=>bP jM z a0 z Y Z aK) z z<|di (fun Gq w hGq Iq=>fO Iq p6 z (hGq.cel _ _ (a3 0 _ z)) aK) z z<|bK H fun a4 a5 H=>wk (vs := [agg [slice c a1.Glyphs.length d, slice f a1.Kerns.length g].toArray, int .u8 (b.getD (Int.toNat (ax (a - 1))) (0 : Int)), int .u8 (b.getD (Int.toNat a) (0 : Int))]) (v := int .i64 a4) DH z z (fun Gq w hGq Iq => ?_) ?_
 refine Calls.mono (pR a5 Iq u (Dat.mono (gT (gT h i) hGq) p) x (Dat.mono (gT (gT h i) hGq) y))<|?_
 rintro _ w2 ⟨D, rfl⟩
 exact ⟨z, _, hGq, D⟩
 refine di (fun Gq w hGq Iq=>ba z z aK) z z<|di (fun Gq w hGq Iq=>aj z aK) z z<|wz fun bV bW a6 a7=>?_
 cases H
 exact je ⟨z, z, z, z, tv⟩ (Hp.low (gT i a6) a7)
 refine nK n H fun H=>wf (bN n)<|ws<|?_
 cases H
 exact je ⟨z, z, z, z, tv⟩ (Hp.low i V)
 exact aI _ _ _<|ae<|mv z<|ba z z<|aj z<|nl<|ih _ _ _ H _ _ ⟨z, z, z, z, tv⟩ aL z
 refine nK m H fun H=>wf (bN m)<|wx<|?_
 cases H
 exact ⟨z, z, ⟨z, tv⟩, C, tv⟩
 rintro e r ds bX ⟨rfl, rfl, j, a8, _⟩
 rw [j.eq]; clear j
 refine aD _ _ _<|sr fun bZ a9=>mv z<|aj z<|aj z<|nl<|a9 _ _ _<|wr<|have bb:=Hp.pick 2 [] a8 z;?_
 cases H
 exact rt ⟨_, _, z, z, ⟨_, _, z, z, z⟩⟩ (Hp.low h bb)
theorem lW {a1 a10 f k l m n o p G L w} (H : fB a1 a10 f = some (o, p)) (hI : Hp G L w) (q : a1.Glyphs.length ≤ l) (r : Dat au G k a1.Glyphs) (s : a1.Kerns.length ≤ n) (t : Dat ay G m a1.Kerns) :
    Calls Tryz.prog 61 [agg [slice k a1.Glyphs.length l, slice m a1.Kerns.length n].toArray, string a10, int .i64 f].toArray w fun e w' => Hp G L w' ∧ e = .returned (tuple [int .i64 o, int .i64 p].toArray) := by
 refine ac (N := 41) Tryz.func61 z z (Nat.le_of_ble_eq_true z)<|?_
 unfold fB at H
 refine sr fun V A=>io hI z z fun u W v=>aj z<|aj z<|nl<|A _ _ _<|sr fun X B=>d9 v 0 fw z z z z<|mv z<|iJ H fun h C D H=>cv Cv (iI D v q r s t) z z fun Y i=>mv z<|cK z z<|cK z z<|?_
 refine aj z<|aj z<|nl<|B _ _ _<|sQ fun Z E=>sr fun aa F=>mv z<|dW z z<|mv z<|bK H fun x hC H=>js 3 i [(1, string a10), (2, int .i64 f), (3, pointer (some ⟨u, 0, none⟩)), (8, bool h), (23, bool x)] ?_ fun _ ab j=>?_
 refine have H:=hC;dC (¬ C = 0) (fun a=>?_) fun a=>?_
 refine yK a H fun H=>Sk 2 z z (bY a) z<|bR (bY a) z<|nl<|?_
 cases H
 exact je ⟨z, z, z, z, z, tv⟩ i
 refine nK a H fun H=>mv (hw:=gY z z z (bN a)) z<|aN (hw:=gY z z z (bN a)) z z<|b7 (bN a) z<|nl<|?_
 cases H
 exact je ⟨z, z, z, z, z, tv⟩ i
 refine mv z<|bK H fun y hC H=>js 3 j [(1, string a10), (2, int .i64 f), (3, pointer (some ⟨u, 0, none⟩)), (8, bool h), (27, bool y)] ?_ fun _ ad g=>?_
 refine have H:=hC;dC (x = true) (fun b=>?_) fun b=>?_
 refine yK b H fun H=>Sk 2 z z (vY b) z<|bR (vY b) z<|nl<|?_
 cases H
 exact je ⟨z, z, z, z, z, tv⟩ j
 refine nK b H fun H=>mv (hw:=gY z z z (vN b)) z<|cc (hw:=gY z z z (vN b)) z z<|b7 (vN b) z<|nl<|?_
 cases H
 exact je ⟨z, z, z, z, z, tv⟩ j
 refine nl<|F _ _ _<|dC (y = true) (fun c=>?_) fun c=>?_
 refine yK c H fun H=>wt (vY c)<|sr fun ae I=>aj z<|aj z<|nl<|I _ _ _<|wr<|have J:=Hp.pick 1 [] g z;?_
 cases H
 exact rt ⟨_, _, z, z, ⟨_, _, z, z, z⟩⟩ J
 refine nK c H fun H=>wf (vN c)<|ws<|E _ _ _<|sQ fun af K=>sr fun ag M=>mv z<|be z<|nl<|M _ _ _<|dC ((!h) = true) (fun d=>?_) fun d=>?_
 refine yK d H fun H=>wt (vY d)<|sr fun ah O=>aj z<|aj z<|nl<|O _ _ _<|wr<|have P:=Hp.pick 1 [] g z;?_
 cases H
 exact rt ⟨_, _, z, z, ⟨_, _, z, z, z⟩⟩ P
 refine nK d H fun H=>wf (vN d)<|ws<|K _ _ _<|sr fun ai Q=>d9 g 0 fw z z z z<|mv z<|iJ H fun ak al R H=>cv bo93 (qy R g q r s t) z z fun am S=>mv z<|cK z z<|cK z z<|aj z<|aj z<|?_
 refine nl<|Q _ _ _<|sr fun an T=>mv z<|mv z<|CB z z<|ba z z<|?_
 refine AX rfl rfl (by decide) ?_
 refine aj z<|aj z<|nl<|T _ _ _<|wr<|have U:=Hp.pick 1 [] S z;?_
 cases H
 exact rt ⟨_, _, z, z, ⟨_, _, z, z, z⟩⟩ U
theorem mF {a1 a10 a b c h i j k l d G L w} (H : fi a1 a10 a b c h = some d) (hI : Hp G L w) (q : a1.Glyphs.length ≤ j) (r : Dat au G i a1.Glyphs) (s : a1.Kerns.length ≤ l) (t : Dat ay G k a1.Kerns) :
    Calls Tryz.prog 90 [agg [slice i a1.Glyphs.length j, slice k a1.Kerns.length l].toArray, string a10, int .i64 a, int .i64 b, bool c, int .i64 h].toArray w fun e w' => Hp G L w' ∧ e = .returned (agg [int .i64 d.From, int .i64 d.Until, int .i64 d.Width, bool d.Hyphen].toArray) := by
 refine ac (N := 31) Tryz.func90 z z (Nat.le_of_ble_eq_true z)<|?_
 unfold fi at H
 refine sr fun Q u=>io hI z z fun R S x=>aM x mO fun y T A=>nl<|u _ _ _<|sQ fun U B=>?_
 refine ie A jD (by kernel_rfl) ?_
 refine di (fun Gq w hGq Iq=>d9 Iq 1 fw z z z z aK) z z<|di (fun Gq w hGq Iq=>mv z aK) z z<|di (fun Gq w hGq Iq=>mv z aK) z z<|di (fun Gq w hGq Iq=>mv z aK) z z<|di (fun Gq w hGq Iq=>mv z aK) z z<|bK H fun n C H=>wk (vs := [string a10, int .i64 a, int .i64 b, bool c]) (v := string n) D4 z z (fun Gq w hGq Iq => ?_) ?_
 refine Calls.mono (mB C Iq)<|?_
 rintro _ D ⟨m, rfl⟩
 exact ⟨z, _, hGq, m⟩
 refine di (fun Gq w hGq Iq=>mv z aK) z z<|iJ H fun f E F H=>wk (vs := [agg [slice i a1.Glyphs.length j, slice k a1.Kerns.length l].toArray, string n, int .i64 h]) (v := tuple [int .i64 f, int .i64 E].toArray) DO z z (fun Gq w hGq Iq => ?_) ?_
 refine Calls.mono (lW F Iq q (Dat.mono hGq r) s (Dat.mono hGq t))<|?_
 rintro _ D ⟨m, rfl⟩
 exact ⟨z, _, hGq, m⟩
 refine di (fun Gq w hGq Iq=>mv z aK) z z<|di (fun Gq w hGq Iq=>cK z z aK) z z<|di (fun Gq w hGq Iq=>cK z z aK) z z<|di (fun Gq w hGq Iq=>aj z aK) z z<|di (fun Gq w hGq Iq=>aj z aK) z z<|wz fun V W I J=>B _ _ _<|sr fun X K=>mv z<|mv z<|mv z<|mv z<|bO (vs := [(0, int .i64 a), (1, int .i64 b), (2, int .i64 f), (3, bool c)]) (cs := [int .i64 a, int .i64 b, int .i64 f, bool c]) mO xR z z<|fX J 0 gy z z z z z z z fun Y p=>?_
 refine nl<|K _ _ _<|wr<|have M:=bW (P := Tryz.prog) p 0 (cs := [int .i64 a, int .i64 b, int .i64 f, bool c]) (g := y) (o := 0) gy z z z;have O:=Hp.pick 2 [] p z;?_
 cases H
 exact rt ⟨_, _, _, z, z, M, z⟩ (Hp.low I O)
theorem ql {a1 a10 B v a17 M C E F J x y S G L w} (H : jh a1 a10 B v a17 M = some S) (hI : Hp G L w) (aF : a1.Glyphs.length ≤ E) (aH : Dat au G C a1.Glyphs) (aI : a1.Kerns.length ≤ J) (aJ : Dat ay G F a1.Kerns) (b1 : a10.length ≤ y) (am : Dat aS G x a10) :
    Calls Tryz.prog 57 [agg [slice C a1.Glyphs.length E, slice F a1.Kerns.length J].toArray, slice x a10.length y, string B, int .i64 v, int .i64 a17, int .i64 M].toArray w fun e w' => Hp G L w' ∧ e = .returned (agg [int .i64 S.From, int .i64 S.Until, int .i64 S.Width, bool S.Hyphen].toArray) := by
 refine ac (N := 71) Tryz.func57 z z (Nat.le_of_ble_eq_true z)<|?_
 unfold jh at H
 refine sr fun b2 bb=>io hI z z fun A b3 bc=>aM bc mO fun p b4 aK=>nl<|bb _ _ _<|sr fun b5 bd=>d9 aK 1 fw z z z z<|mv z<|mv z<|mv z<|cX fA z<|mv z<|bK H fun O bf H=>cv Eu (mF bf aK aF aH aI aJ) z z fun b6 bg=>?_
 refine aM bg mO fun q b8 bh=>fX bh 0 gy z z z z z z z fun b9 aL=>nl<|bd _ _ _<|sr fun ca bi=>d9 aL 0 gy z z z z<|aM aL mO fun s cb bj=>fX bj 0 gy z z z z z z z fun cc aN=>nl<|bi _ _ _<|sr fun cd bk=>fa ng z<|ld aN 1 bv z z z<|mv z<|?_
 refine eI z z<|aj z<|nl<|bk _ _ _<|sQ fun ce bl=>sr fun cf bm=>mv z<|q_len vU z<|dl z z<|aj z<|nl<|bm _ _ _<|wb<|bK9 H fun an ao ar av aw az aA aC aD hC H=>?_
 refine aq (Q := fun e r ds w => e = .exit 0 ∧ ds = [] ∧ Has [(12, pointer (some ⟨p, 0, none⟩)), (13, pointer (some ⟨q, 0, none⟩)), (14, pointer (some ⟨s, 0, none⟩)), (15, bool an)] r ∧ Hp G (bx s [int .i64 ao, int .i64 ar, int .i64 av, bool aw] 46 :: bx q [int .i64 az, int .i64 aA, int .i64 aC, bool aD] 46 :: bx p [int .i64 0, int .i64 0, int .i64 0, bool false] 46 :: bx A [slice C a1.Glyphs.length E, slice F a1.Kerns.length J] 25 :: L) w ∧ True) ?_ ?_
 refine aB fun I a9=>?_
 refine dK.partial_correctness a1 a10 B v a17 M (fun R l T U V W ab ad af ag o => ∀ (r : Rg) (w : World), Has [(1, slice x a10.length y), (2, string B), (3, int .i64 v), (4, int .i64 a17), (5, int .i64 M), (6, pointer (some ⟨A, 0, none⟩)), (12, pointer (some ⟨p, 0, none⟩)), (13, pointer (some ⟨q, 0, none⟩)), (14, pointer (some ⟨s, 0, none⟩)), (15, bool R), (16, int .i64 l)] r → Hp G (bx s [int .i64 T, int .i64 U, int .i64 V, bool W] 46 :: bx q [int .i64 ab, int .i64 ad, int .i64 af, bool ag] 46 :: bx p [int .i64 0, int .i64 0, int .i64 0, bool false] 46 :: bx A [slice C a1.Glyphs.length E, slice F a1.Kerns.length J] 25 :: L) w → o = (an, ao, ar, av, aw, az, aA, aC, aD) → I r [] w) ?_ (decide (O.Width ≤ M)) (ax ((a10.length : Int) - 1)) O.From O.Until O.Width O.Hyphen O.From O.Until O.Width O.Hyphen _ hC _ _ ⟨rfl, rfl, rfl, rfl, rfl, rfl, rfl, rfl, rfl, rfl, rfl, tv⟩ aN rfl
 intro _ ih R l T U V W ab ad af ag o H r cg u ah ho
 rw [ho] at H; clear ho
 rw [u.eq]; clear u
 refine a9 _ _ _<|sQ fun ch bn=>sr fun ci bo=>mv z<|gM z z<|nl<|bo _ _ _<|dC (0 ≤ l) (fun X=>?_) fun X=>?_
 refine yK X H fun H=>wt (bY X)<|ws<|bn _ _ _<|sQ fun cj bp=>bK H fun aO hC H=>?_
 refine aq (Q := fun e r ds w => match (generalizing := false) aO with | (Sum.inl _) => e = .exit 0 ∧ ds = [] ∧ Has [(12, pointer (some ⟨p, 0, none⟩)), (13, pointer (some ⟨q, 0, none⟩)), (14, pointer (some ⟨s, 0, none⟩)), (15, bool R)] r ∧ Hp G (bx s [int .i64 T, int .i64 U, int .i64 V, bool W] 46 :: bx q [int .i64 ab, int .i64 ad, int .i64 af, bool ag] 46 :: bx p [int .i64 0, int .i64 0, int .i64 0, bool false] 46 :: bx A [slice C a1.Glyphs.length E, slice F a1.Kerns.length J] 25 :: L) w ∧ True | (Sum.inr (aP, aQ, aR, aT, aU, aV, aW, aX, aY)) => e = .normal ∧ ds = [] ∧ Has [(1, slice x a10.length y), (2, string B), (3, int .i64 v), (4, int .i64 a17), (5, int .i64 M), (6, pointer (some ⟨A, 0, none⟩)), (12, pointer (some ⟨p, 0, none⟩)), (13, pointer (some ⟨q, 0, none⟩)), (14, pointer (some ⟨s, 0, none⟩)), (15, bool aP), (16, int .i64 l)] r ∧ Hp G (bx s [int .i64 aQ, int .i64 aR, int .i64 aT, bool aU] 46 :: bx q [int .i64 aV, int .i64 aW, int .i64 aX, bool aY] 46 :: bx p [int .i64 0, int .i64 0, int .i64 0, bool false] 46 :: bx A [slice C a1.Glyphs.length E, slice F a1.Kerns.length J] 25 :: L) w ∧ True) ?_ ?_
 refine have H:=hC;wb<|sQ fun ck bq=>sr fun cl br=>mv z<|mv z<|iK H fun⟨aZ, a0⟩H=>?_
 obtain ⟨cm, cn, bs, bt, co, bu⟩ := Dat.get am aG (l) aZ a0
 obtain ⟨rfl⟩ := dU bt
 refine bP p7 z bs z aZ a0<|lf rC z z<|fO ah bv z (gR.cel _ _ (bu 0 _ z))<|mv z<|eI z z<|nl<|br _ _ _<|dC (((a10.getD (Int.toNat l) aG).At) ≤ v) (fun Y=>?_) fun Y=>?_
 refine yK Y H fun H=>wt (bY Y)<|wx<|?_
 cases H
 exact ⟨z, z, ⟨z, z, z, z, tv⟩, ah, tv⟩
 refine nK Y H fun H=>wf (bN Y)<|ws<|bq _ _ _<|sQ fun cp bw=>iK H fun⟨a2, a3⟩H=>?_
 obtain ⟨ai, cq, bz, bA, cr, bB⟩ := Dat.get am aG (l) a2 a3
 obtain ⟨rfl⟩ := dU bA
 refine iK H fun⟨a4, a5⟩H=>?_
 obtain ⟨ak, ct, bC, bD, cu, bE⟩ := Dat.get am aG (l) a4 a5
 obtain ⟨rfl⟩ := dU bD
 refine bK H fun t bF H=>?_
 refine eC [0, 0, 0, 0, 0, 24, 56, 120, 0, 0, 768, 1792, 3840, 0, 16383, 32767] (fun D r w => (D 15 = false ∧ ∃ (G' : Gh), G ≤ G' ∧ ap [(1, slice x a10.length y), (2, string B), (3, int .i64 v), (4, int .i64 a17), (5, int .i64 M), (6, pointer (some ⟨A, 0, none⟩)), (12, pointer (some ⟨p, 0, none⟩)), (13, pointer (some ⟨q, 0, none⟩)), (14, pointer (some ⟨s, 0, none⟩)), (15, bool R), (16, int .i64 l)] [] [(0, 43, agg [slice C a1.Glyphs.length E, slice F a1.Kerns.length J].toArray), (1, 44, string B), (2, 45, int .i64 v), (3, 46, slice x a10.length y), (4, 47, int .i64 l), (5, 48, pointer (some (ai.add (Int.toNat l * 2)))), (6, 49, pointer (some ((ai.add (Int.toNat l * 2)).add 0))), (7, 50, int .i64 ((a10.getD (Int.toNat l) aG).At)), (8, 51, slice x a10.length y), (9, 52, int .i64 l), (10, 53, pointer (some (ak.add (Int.toNat l * 2)))), (11, 54, pointer (some ((ak.add (Int.toNat l * 2)).add 1))), (12, 55, bool ((a10.getD (Int.toNat l) aG).Hyphen)), (13, 56, int .i64 a17), (14, 57, agg [int .i64 t.From, int .i64 t.Until, int .i64 t.Width, bool t.Hyphen].toArray)] D r ∧ Hp G' (bx s [int .i64 T, int .i64 U, int .i64 V, bool W] 46 :: bx q [int .i64 ab, int .i64 ad, int .i64 af, bool ag] 46 :: bx p [int .i64 0, int .i64 0, int .i64 0, bool false] 46 :: bx A [slice C a1.Glyphs.length E, slice F a1.Kerns.length J] 25 :: L) w) ∨ (D 15 = true ∧ ∃ (G' : Gh), G ≤ G' ∧ ap [(1, slice x a10.length y), (2, string B), (3, int .i64 v), (4, int .i64 a17), (5, int .i64 M), (6, pointer (some ⟨A, 0, none⟩)), (12, pointer (some ⟨p, 0, none⟩)), (13, pointer (some ⟨q, 0, none⟩)), (14, pointer (some ⟨s, 0, none⟩)), (15, bool R), (16, int .i64 l)] [] [(0, 43, agg [slice C a1.Glyphs.length E, slice F a1.Kerns.length J].toArray), (1, 44, string B), (2, 45, int .i64 v), (3, 46, slice x a10.length y), (4, 47, int .i64 l), (5, 48, pointer (some (ai.add (Int.toNat l * 2)))), (6, 49, pointer (some ((ai.add (Int.toNat l * 2)).add 0))), (7, 50, int .i64 ((a10.getD (Int.toNat l) aG).At)), (8, 51, slice x a10.length y), (9, 52, int .i64 l), (10, 53, pointer (some (ak.add (Int.toNat l * 2)))), (11, 54, pointer (some ((ak.add (Int.toNat l * 2)).add 1))), (12, 55, bool ((a10.getD (Int.toNat l) aG).Hyphen)), (13, 56, int .i64 a17), (14, 57, agg [int .i64 t.From, int .i64 t.Until, int .i64 t.Width, bool t.Hyphen].toArray)] D r ∧ Hp G' (bx s [int .i64 T, int .i64 U, int .i64 V, bool W] 46 :: bx q [int .i64 t.From, int .i64 t.Until, int .i64 t.Width, bool t.Hyphen] 46 :: bx p [int .i64 0, int .i64 0, int .i64 0, bool false] 46 :: bx A [slice C a1.Glyphs.length E, slice F a1.Kerns.length J] 25 :: L) w)) jD z z ?_ ?_ ?_
 exact (.inl ⟨z, _, Gh.le_refl _, ap.start ⟨z, z, z, z, z, z, z, z, z, z, z, tv⟩ trivial, ah.drew⟩)
 refine ⟨?_, ?_, ?_, ?_, ?_, ?_, ?_, ?_, ?_, ?_, ?_, ?_, ?_, ?_, ?_, ?_, tv⟩
 rintro D r m (⟨f, d, c, a, b⟩ | ⟨h, d, c, a, b⟩) i j k
 obtain ⟨n, rfl⟩ := Has.ex (cC (a.ins.get 5 rfl) cN)
 exact d9 b 3 fw z z z z<|nl ⟨z, (.inl ⟨f, _, c, (ap.step a i z z z z), b⟩)⟩
 cases (k 15 rfl).symm.trans h
 rintro D r m (⟨f, d, c, a, b⟩ | ⟨h, d, c, a, b⟩) i j k
 obtain ⟨n, rfl⟩ := Has.ex (cC (a.ins.get 1 rfl) cN)
 exact mv z<|nl ⟨z, (.inl ⟨f, _, c, (ap.step a i z z z z), b⟩)⟩
 cases (k 15 rfl).symm.trans h
 rintro D r m (⟨f, d, c, a, b⟩ | ⟨h, d, c, a, b⟩) i j k
 obtain ⟨n, rfl⟩ := Has.ex (cC (a.ins.get 2 rfl) cN)
 exact mv z<|nl ⟨z, (.inl ⟨f, _, c, (ap.step a i z z z z), b⟩)⟩
 cases (k 15 rfl).symm.trans h
 rintro D r m (⟨f, d, c, a, b⟩ | ⟨h, d, c, a, b⟩) i j k
 obtain ⟨n, rfl⟩ := Has.ex (cC (a.ins.get 0 rfl) cN)
 exact mv z<|nl ⟨z, (.inl ⟨f, _, c, (ap.step a i z z z z), b⟩)⟩
 cases (k 15 rfl).symm.trans h
 rintro D r m (⟨f, d, c, a, b⟩ | ⟨h, d, c, a, b⟩) i j k
 obtain ⟨n, rfl⟩ := Has.ex (cC (a.ins.get 10 rfl) cN)
 exact mv z<|nl ⟨z, (.inl ⟨f, _, c, (ap.step a i z z z z), b⟩)⟩
 cases (k 15 rfl).symm.trans h
 rintro D r m (⟨f, d, c, a, b⟩ | ⟨h, d, c, a, b⟩) i j k
 obtain ⟨n, rfl⟩ := Has.ex (cC (a.get 3 rfl (j 3 rfl)) (cC (a.get 4 rfl (j 4 rfl)) cN))
 exact bP p7 z bz z a2 a3<|nl ⟨z, (.inl ⟨f, _, c, (ap.step a i z z z z), b⟩)⟩
 cases (k 15 rfl).symm.trans h
 rintro D r m (⟨f, d, c, a, b⟩ | ⟨h, d, c, a, b⟩) i j k
 obtain ⟨n, rfl⟩ := Has.ex (cC (a.get 5 rfl (j 5 rfl)) cN)
 exact lf rC z z<|nl ⟨z, (.inl ⟨f, _, c, (ap.step a i z z z z), b⟩)⟩
 cases (k 15 rfl).symm.trans h
 rintro D r m (⟨f, d, c, a, b⟩ | ⟨h, d, c, a, b⟩) i j k
 obtain ⟨n, rfl⟩ := Has.ex (cC (a.get 6 rfl (j 6 rfl)) cN)
 exact fO b bv z (c.cel _ _ (bB 0 _ z))<|nl ⟨z, (.inl ⟨f, _, c, (ap.step a i z z z z), b⟩)⟩
 cases (k 15 rfl).symm.trans h
 rintro D r m (⟨f, d, c, a, b⟩ | ⟨h, d, c, a, b⟩) i j k
 obtain ⟨n, rfl⟩ := Has.ex (cC (a.ins.get 0 rfl) cN)
 exact mv z<|nl ⟨z, (.inl ⟨f, _, c, (ap.step a i z z z z), b⟩)⟩
 cases (k 15 rfl).symm.trans h
 rintro D r m (⟨f, d, c, a, b⟩ | ⟨h, d, c, a, b⟩) i j k
 obtain ⟨n, rfl⟩ := Has.ex (cC (a.ins.get 10 rfl) cN)
 exact mv z<|nl ⟨z, (.inl ⟨f, _, c, (ap.step a i z z z z), b⟩)⟩
 cases (k 15 rfl).symm.trans h
 rintro D r m (⟨f, d, c, a, b⟩ | ⟨h, d, c, a, b⟩) i j k
 obtain ⟨n, rfl⟩ := Has.ex (cC (a.get 8 rfl (j 8 rfl)) (cC (a.get 9 rfl (j 9 rfl)) cN))
 exact bP p7 z bC z a4 a5<|nl ⟨z, (.inl ⟨f, _, c, (ap.step a i z z z z), b⟩)⟩
 cases (k 15 rfl).symm.trans h
 rintro D r m (⟨f, d, c, a, b⟩ | ⟨h, d, c, a, b⟩) i j k
 obtain ⟨n, rfl⟩ := Has.ex (cC (a.get 10 rfl (j 10 rfl)) cN)
 exact lf rE z z<|nl ⟨z, (.inl ⟨f, _, c, (ap.step a i z z z z), b⟩)⟩
 cases (k 15 rfl).symm.trans h
 rintro D r m (⟨f, d, c, a, b⟩ | ⟨h, d, c, a, b⟩) i j k
 obtain ⟨n, rfl⟩ := Has.ex (cC (a.get 11 rfl (j 11 rfl)) cN)
 exact fO b zU z (c.cel _ _ (bE 1 _ z))<|nl ⟨z, (.inl ⟨f, _, c, (ap.step a i z z z z), b⟩)⟩
 cases (k 15 rfl).symm.trans h
 rintro D r m (⟨f, d, c, a, b⟩ | ⟨h, d, c, a, b⟩) i j k
 obtain ⟨n, rfl⟩ := Has.ex (cC (a.ins.get 3 rfl) cN)
 exact mv z<|nl ⟨z, (.inl ⟨f, _, c, (ap.step a i z z z z), b⟩)⟩
 cases (k 15 rfl).symm.trans h
 rintro D r m (⟨f, d, c, a, b⟩ | ⟨h, d, c, a, b⟩) i j k
 obtain ⟨n, rfl⟩ := Has.ex (cC (a.get 0 rfl (j 0 rfl)) (cC (a.get 1 rfl (j 1 rfl)) (cC (a.get 2 rfl (j 2 rfl)) (cC (a.get 7 rfl (j 7 rfl)) (cC (a.get 12 rfl (j 12 rfl)) (cC (a.get 13 rfl (j 13 rfl)) cN))))))
 exact cv Eu (mF bF b aF (Dat.mono c aH) aI (Dat.mono c aJ)) z z fun cw bG=>nl ⟨z, (.inl ⟨f, _, c, (ap.step a i z z z z), bG⟩)⟩
 cases (k 15 rfl).symm.trans h
 rintro D r m (⟨f, d, c, a, b⟩ | ⟨h, d, c, a, b⟩) i j k
 obtain ⟨n, rfl⟩ := Has.ex (cC (a.ins.get 7 rfl) (cC (a.get 14 rfl (j 14 rfl)) cN))
 exact fX b 1 gy z z z z z z z fun cx bH=>nl ⟨z, (.inr ⟨z, _, c, (ap.stepN a z z), bH⟩)⟩
 cases i.symm.trans h
 intro D r m ba hR
 rcases hR with ⟨f, d, c, a, b⟩ | ⟨h, d, c, a, b⟩
 cases (ba 15 (Nat.le_of_ble_eq_true rfl)).symm.trans f
 obtain ⟨n, rfl⟩ := Has.ex (cC (a.ins.get 0 rfl) (cC (a.ins.get 1 rfl) (cC (a.ins.get 2 rfl) (cC (a.ins.get 3 rfl) (cC (a.ins.get 4 rfl) (cC (a.ins.get 5 rfl) (cC (a.ins.get 6 rfl) (cC (a.ins.get 7 rfl) (cC (a.ins.get 8 rfl) (cC (a.ins.get 9 rfl) (cC (a.ins.get 10 rfl) cN)))))))))))
 refine bw _ _ _<|sr fun cy bI=>mv z<|be z<|mv z<|bK H fun a6 hC H=>?_
 refine js 5 b [(1, slice x a10.length y), (2, string B), (3, int .i64 v), (4, int .i64 a17), (5, int .i64 M), (6, pointer (some ⟨A, 0, none⟩)), (12, pointer (some ⟨p, 0, none⟩)), (13, pointer (some ⟨q, 0, none⟩)), (14, pointer (some ⟨s, 0, none⟩)), (15, bool R), (16, int .i64 l), (65, bool a6)] ?_ fun _ cz aE=>?_
 refine have H:=hC;dC ((!R) = true) (fun K=>?_) fun K=>?_
 refine yK K H fun H=>fa (hw:=gY z z z (vY K)) ng z<|ld (hw:=gY z z z (vY K)) b 1 bv z z z<|mv (hw:=gY z z z (vY K)) z<|eI (hw:=gY z z z (vY K)) z z<|bR (vY K) z<|nl<|?_
 cases H
 exact je ⟨z, z, z, z, z, z, z, z, z, z, z, z, tv⟩ b
 refine nK K H fun H=>Sk 4 z z (vN K) z<|b7 (vN K) z<|nl<|?_
 cases H
 exact je ⟨z, z, z, z, z, z, z, z, z, z, z, z, tv⟩ b
 refine nl<|bI _ _ _<|dC (a6 = true) (fun Z=>?_) fun Z=>?_
 refine yK Z H fun H=>wt (vY Z)<|sr fun cA bJ=>d9 aE 1 gy z z z z<|fX aE 0 gy z z z z z z z fun cB bL=>nl<|bJ _ _ _<|ae<|aj z<|nl<|?_
 cases H
 exact ⟨z, z, ⟨z, z, z, z, z, z, z, z, z, z, z, tv⟩, (Hp.low c bL), tv⟩
 refine nK Z H fun H=>wf (vN Z)<|ws<|?_
 cases H
 exact ⟨z, z, ⟨z, z, z, z, z, z, z, z, z, z, z, tv⟩, (Hp.low c aE), tv⟩
 rcases aO with _ | ⟨aP, aQ, aR, aT, aU, aV, aW, aX, aY⟩
 rintro e r ds cD ⟨rfl, rfl, u, bM, _⟩
 rw [u.eq]; clear u
 cases H
 exact ⟨z, z, ⟨z, z, z, z, tv⟩, bM, tv⟩
 rintro e r ds cE ⟨rfl, rfl, u, bO, _⟩
 rw [u.eq]; clear u
 exact bp _ _ _<|ae<|mv z<|dl z z<|aj z<|nl<|ih _ _ _ _ _ _ _ _ _ _ _ H _ _ ⟨z, z, z, z, z, z, z, z, z, z, z, tv⟩ bO z
 refine nK X H fun H=>wf (bN X)<|wx<|?_
 cases H
 exact ⟨z, z, ⟨z, z, z, z, tv⟩, ah, tv⟩
 rintro e r ds cF ⟨rfl, rfl, u, al, _⟩
 rw [u.eq]; clear u
 refine bl _ _ _<|sQ fun cG bQ=>sr fun cH bS=>mv z<|be z<|nl<|bS _ _ _<|dC ((!an) = true) (fun aa=>?_) fun aa=>?_
 refine yK aa H fun H=>wt (vY aa)<|sr fun cI bT=>d9 al 1 gy z z z z<|fX al 2 gy z z z z z z z fun cJ a7=>nl<|bT _ _ _<|wr<|have bU:=bW (P := Tryz.prog) a7 2 (cs := [int .i64 az, int .i64 aA, int .i64 aC, bool aD]) (g := p) (o := 0) gy z z z;have bV:=Hp.pick 4 [] a7 z;?_
 cases H
 exact rt ⟨_, _, _, z, z, bU, z⟩ bV
 refine nK aa H fun H=>wf (vN aa)<|ws<|bQ _ _ _<|sr fun cK bX=>d9 al 0 gy z z z z<|fX al 2 gy z z z z z z z fun cL a8=>nl<|bX _ _ _<|wr<|have bZ:=bW (P := Tryz.prog) a8 2 (cs := [int .i64 ao, int .i64 ar, int .i64 av, bool aw]) (g := p) (o := 0) gy z z z;have b0:=Hp.pick 4 [] a8 z;?_
 cases H
 exact rt ⟨_, _, _, z, z, bZ, z⟩ b0
theorem j4 {a1 a10 c j a17 k p q r s t u d A G L w} (H : fg a1 a10 c j a17 k = some (d, A)) (hI : Hp G L w) (B : a1.Glyphs.length ≤ q) (C : Dat au G p a1.Glyphs) (D : a1.Kerns.length ≤ s) (E : Dat ay G r a1.Kerns) (Q : a10.Keep.length ≤ u) (R : Dat Kd.str G t a10.Keep) :
    Calls Tryz.prog 28 [agg [slice p a1.Glyphs.length q, slice r a1.Kerns.length s].toArray, agg [int .i64 a10.Before, int .i64 a10.Behind, slice t a10.Keep.length u].toArray, string c, int .i64 j, int .i64 a17, int .i64 k].toArray w fun e w' => Hp G L w' ∧ e = .returned (tuple [agg [int .i64 d.From, int .i64 d.Until, int .i64 d.Width, bool d.Hyphen].toArray, int .i64 A].toArray) := by
 refine ac (N := 51) Tryz.func28 z z (Nat.le_of_ble_eq_true z)<|?_
 unfold fg at H
 refine sr fun az S=>io hI z z fun F aA T=>io T z z fun I aB U=>aM U mO fun f aC V=>aj z<|nl<|S _ _ _<|sr fun aD W=>mv z<|bK H fun X Y H=>cv ES (mG Y V) z z fun aE v=>aj z<|nl<|W _ _ _<|?_
 refine sQ fun aF Z=>sr fun aG aa=>mv z<|be z<|mv z<|bK H fun qs hC H=>js 3 v [(2, string c), (3, int .i64 j), (4, int .i64 a17), (5, int .i64 k), (6, pointer (some ⟨F, 0, none⟩)), (7, pointer (some ⟨I, 0, none⟩)), (12, pointer (some ⟨f, 0, none⟩)), (24, bool qs)] ?_ fun _ aH x=>?_
 refine have H:=hC;dC ((!X) = true) (fun b=>?_) fun b=>?_
 refine yK b H fun H=>Sk 2 z z (vY b) z<|bR (vY b) z<|nl<|?_
 cases H
 exact je ⟨z, z, z, z, z, z, z, z, tv⟩ v
 refine nK b H fun H=>mv (hw:=gY z z z (vN b)) z<|aN (hw:=gY z z z (vN b)) z z<|b7 (vN b) z<|nl<|?_
 cases H
 exact je ⟨z, z, z, z, z, z, z, z, tv⟩ v
 refine mv z<|bK H fun J hC H=>js 5 x [(2, string c), (3, int .i64 j), (4, int .i64 a17), (5, int .i64 k), (6, pointer (some ⟨F, 0, none⟩)), (7, pointer (some ⟨I, 0, none⟩)), (12, pointer (some ⟨f, 0, none⟩)), (30, bool J)] ?_ fun _ aI l=>?_
 refine have H:=hC;dC (qs = true) (fun a=>?_) fun a=>?_
 refine yK a H fun H=>Sk 4 z z (vY a) z<|bR (vY a) z<|nl<|?_
 cases H
 exact je ⟨z, z, z, z, z, z, z, z, tv⟩ x
 refine nK a H fun H=>mv (hw:=gY z z z (vN a)) z<|mv (hw:=gY z z z (vN a)) z<|cX (hw:=gY z z z (vN a)) fA z<|gM (hw:=gY z z z (vN a)) z z<|b7 (vN a) z<|nl<|?_
 cases H
 exact je ⟨z, z, z, z, z, z, z, z, tv⟩ x
 refine nl<|aa _ _ _<|dC (J = true) (fun h=>?_) fun h=>?_
 refine yK h H fun H=>wt (vY h)<|sr fun aJ ab=>bO (vs := []) (cs := [int .i64 0, int .i64 0, int .i64 0, bool false]) mO xR z z<|fX l 0 gy z z z z z z z fun aK K=>aj z<|nl<|ab _ _ _<|wr<|have ad:=bW (P := Tryz.prog) K 0 (cs := [int .i64 0, int .i64 0, int .i64 0, bool false]) (g := f) (o := 0) gy z z z;have ae:=Hp.pick 3 [] K z;?_
 cases H
 exact rt ⟨_, _, _, z, z, ad, ⟨_, _, z, z, z⟩⟩ ae
 refine nK h H fun H=>wf (vN h)<|ws<|Z _ _ _<|sr fun aL af=>d9 l 2 fw z z z z<|d9 l 1 jT z z z z<|mv z<|mv z<|iJ H fun aO ag ah H=>fU (vs := [agg [slice p a1.Glyphs.length q, slice r a1.Kerns.length s].toArray, agg [int .i64 a10.Before, int .i64 a10.Behind, slice t a10.Keep.length u].toArray, string c, int .i64 a17]) bo56 z z (px ah l B C D E Q R)<|?_
 rintro _ aP ⟨aQ, aR, aS, m, y, ai, ak, aT, rfl⟩
 refine ⟨_, rfl, ?_⟩
 refine mv z<|cK z z<|cK z z<|aj z<|aj z<|nl<|af _ _ _<|sQ fun aU al=>sr fun aV am=>mv z<|dW z z<|nl<|am _ _ _<|dC (¬ ag = 0) (fun i=>?_) fun i=>?_
 refine yK i H fun H=>wt (bY i)<|sr fun aW an=>bO (vs := []) (cs := [int .i64 0, int .i64 0, int .i64 0, bool false]) mO xR z z<|mv z<|fX y 1 gy z z z z z z z fun aX M=>aj z<|nl<|an _ _ _<|wr<|have ao:=bW (P := Tryz.prog) M 1 (cs := [int .i64 0, int .i64 0, int .i64 0, bool false]) (g := f) (o := 0) gy z z z;have ap:=Hp.pick 4 [] M z;?_
 cases H
 exact rt ⟨_, _, _, z, z, ao, ⟨_, _, z, z, z⟩⟩ (Hp.low m ap)
 refine nK i H fun H=>wf (bN i)<|ws<|al _ _ _<|sr fun aY aq=>d9 y 3 fw z z z z<|mv z<|mv z<|mv z<|mv z<|mv z<|bK H fun n ar H=>cv bo57 (ql ar y B (Dat.mono m C) D (Dat.mono m E) ai ak) z z fun aZ av=>fX av 1 gy z z z z z z z fun a0 O=>?_
 refine aj z<|nl<|aq _ _ _<|wr<|have aw:=bW (P := Tryz.prog) O 1 (cs := [int .i64 n.From, int .i64 n.Until, int .i64 n.Width, bool n.Hyphen]) (g := f) (o := 0) gy z z z;have ax:=Hp.pick 4 [] O z;?_
 cases H
 exact rt ⟨_, _, _, z, z, aw, ⟨_, _, z, z, z⟩⟩ (Hp.low m ax)
theorem lp {a1 a2 f g G L w} (H : iv a1 a2 f = some g) (hI : Hp G L w) :
    Calls Tryz.prog 19 [agg [int .i64 a1.Side, int .i64 a1.X, int .i64 a1.Y, int .i64 a1.W, int .i64 a1.H].toArray, int .i64 a2, int .i64 f].toArray w fun e w' => Hp G L w' ∧ e = .returned (bool g) := by
 refine ac (N := 28) Tryz.func19 z z (Nat.le_of_ble_eq_true z)<|?_
 unfold iv at H
 refine sr fun o i=>io hI z z fun j p c=>aj z<|nl<|i _ _ _<|sr fun q k=>fa nF z<|ld c 0 bv z z z<|cc z z<|mv z<|bK H fun h hC H=>js 8 c [(1, int .i64 a2), (3, pointer (some ⟨j, 0, none⟩)), (18, bool h)] ?_ fun _ r d=>?_
 refine have H:=hC;dC (0 < a1.H) (fun a=>?_) fun a=>?_
 refine yK a H fun H=>fa (hw:=gY z z z (bY a)) nB z<|ld (hw:=gY z z z (bY a)) c 0 bv z z z<|mv (hw:=gY z z z (bY a)) z<|mv (hw:=gY z z z (bY a)) z<|rl (hw:=gY z z z (bY a)) z z<|ba (hw:=gY z z z (bY a)) z z<|aN (hw:=gY z z z (bY a)) z z<|bR (bY a) z<|nl<|?_
 cases H
 exact je ⟨z, z, z, tv⟩ c
 refine nK a H fun H=>Sk 7 z z (bN a) z<|b7 (bN a) z<|nl<|?_
 cases H
 exact je ⟨z, z, z, tv⟩ c
 refine mv z<|bK H fun l hC H=>js 8 d [(27, bool l)] ?_ fun _ s m=>?_
 refine have H:=hC;dC (h = true) (fun b=>?_) fun b=>?_
 refine yK b H fun H=>fa (hw:=gY z z z (vY b)) nB z<|ld (hw:=gY z z z (vY b)) d 0 bv z z z<|fa (hw:=gY z z z (vY b)) nF z<|ld (hw:=gY z z z (vY b)) d 0 bv z z z<|ba (hw:=gY z z z (vY b)) z z<|mv (hw:=gY z z z (vY b)) z<|cc (hw:=gY z z z (vY b)) z z<|bR (vY b) z<|nl<|?_
 cases H
 exact je ⟨z, tv⟩ d
 refine nK b H fun H=>Sk 7 z z (vN b) z<|b7 (vN b) z<|nl<|?_
 cases H
 exact je ⟨z, tv⟩ d
 refine aj z<|nl<|k _ _ _<|wr<|have n:=Hp.pick 1 [] m z;?_
 cases H
 exact rt ⟨_, _, z, z, z⟩ n
theorem qj {a1 a6 J K A B af G L w} (H : kJ a1 a6 J K = some af) (hI : Hp G L w) (br : a1.length ≤ B) (O : Dat bm G A a1) :
    Calls Tryz.prog 58 [slice A a1.length B, int .i64 a6, int .i64 J, int .i64 K].toArray w fun e w' => Hp G L w' ∧ e = .returned (agg [int .i64 af.Lo, int .i64 af.Hi].toArray) := by
 refine ac (N := 66) Tryz.func58 z z (Nat.le_of_ble_eq_true z)<|?_
 unfold kJ at H
 refine sr fun K9 aE=>aM hI rp fun y bt aF=>nl<|aE _ _ _<|sr fun bu aG=>mv z<|bO (vs := [(0, int .i64 0), (1, int .i64 a6)]) (cs := [int .i64 0, int .i64 a6]) rp Cr z z<|aM aF rp fun t bw aH=>fX aH 0 oF z z z z z z z fun bz aI=>nl<|aG _ _ _<|sQ fun bB aJ=>sr fun bC aK=>aj z<|?_
 refine nl<|aK _ _ _<|wb<|iJ H fun U ah hC H=>aq (Q := fun e r ds w => e = .exit 0 ∧ ds = [] ∧ Has [(8, pointer (some ⟨y, 0, none⟩)), (9, pointer (some ⟨t, 0, none⟩))] r ∧ Hp G (bx t [int .i64 U, int .i64 ah] 53 :: bx y [int .i64 0, int .i64 0] 53 :: L) w ∧ True) ?_ ?_
 refine aB fun I aD=>?_
 refine dN.partial_correctness a1 J K (fun b C E o => ∀ (r : Rg) (w : World), Has [(0, slice A a1.length B), (2, int .i64 J), (3, int .i64 K), (8, pointer (some ⟨y, 0, none⟩)), (9, pointer (some ⟨t, 0, none⟩)), (10, int .i64 b)] r → Hp G (bx t [int .i64 C, int .i64 E] 53 :: bx y [int .i64 0, int .i64 0] 53 :: L) w → o = (U, ah) → I r [] w) ?_ 0 0 a6 _ hC _ _ ⟨rfl, rfl, rfl, rfl, rfl, rfl, tv⟩ aI rfl
 intro _ ih b C E o H r bD M ai ho
 rw [ho] at H; clear ho
 rw [M.eq]; clear M
 refine aD _ _ _<|sQ fun bE aL=>sr fun bG aO=>mv z<|mv z<|q_len vO z<|aN z z<|nl<|aO _ _ _<|dC (b < (a1.length : Int)) (fun R=>?_) fun R=>?_
 refine yK R H fun H=>wt (bY R)<|ws<|aL _ _ _<|sQ fun bH aP=>iJ H fun aQ aR hC H=>jC .normal G [(0, slice A a1.length B), (2, int .i64 J), (3, int .i64 K), (8, pointer (some ⟨y, 0, none⟩)), (9, pointer (some ⟨t, 0, none⟩)), (10, int .i64 b)] (bx t [int .i64 aQ, int .i64 aR] 53 :: bx y [int .i64 0, int .i64 0] 53 :: L) ?_ fun _ bI aS=>?_
 refine have H:=hC;wb<|sr fun bJ aT=>mv z<|mv z<|iK H fun⟨al, am⟩H=>?_
 obtain ⟨bL, bM, aU, aV, bQ, aW⟩ := Dat.get O ag (b) al am
 obtain ⟨rfl⟩ := bF aV
 refine bP oh z aU z al am<|ki ai vc z (cs := [int .i64 ((a1.getD (Int.toNat b) ag).Side), int .i64 ((a1.getD (Int.toNat b) ag).X), int .i64 ((a1.getD (Int.toNat b) ag).Y), int .i64 ((a1.getD (Int.toNat b) ag).W), int .i64 ((a1.getD (Int.toNat b) ag).H)]) z (fun j v hv => gR.cel _ _ (aW j v hv))<|mv z<|mv z<|bK H fun aX aY H=>cv DQ (lp (a1 := (a1.getD (Int.toNat b) ag)) aY ai) z z fun bR V=>aj z<|nl<|aT _ _ _<|sQ fun bS aZ=>sr fun bT a0=>mv z<|be z<|nl<|?_
 refine a0 _ _ _<|dC ((!aX) = true) (fun S=>?_) fun S=>?_
 refine yK S H fun H=>wt (vY S)<|wx<|?_
 cases H
 exact je ⟨z, z, z, z, z, z, tv⟩ V
 refine nK S H fun H=>wf (vN S)<|ws<|aZ _ _ _<|sr fun bU a2=>mv z<|mv z<|iK H fun⟨an, ao⟩H=>?_
 obtain ⟨bV, bX, a3, a4, bZ, a5⟩ := Dat.get O ag (b) an ao
 obtain ⟨rfl⟩ := bF a4
 refine bP oh z a3 z an ao<|lf sH z z<|fO V bv z (gR.cel _ _ (a5 0 _ z))<|bA z z<|nl<|a2 _ _ _<|dC (((a1.getD (Int.toNat b) ag).Side) = 1) (fun T=>?_) fun T=>?_
 refine yK T H fun H=>wt (bY T)<|iK H fun⟨ar, au⟩H=>?_
 obtain ⟨Z, b0, a9, bb, b1, bc⟩ := Dat.get O ag (b) ar au
 obtain ⟨rfl⟩ := bF bb
 refine iK H fun⟨av, aw⟩H=>?_
 obtain ⟨aa, b2, bd, bf, b3, bg⟩ := Dat.get O ag (b) av aw
 obtain ⟨rfl⟩ := bF bf
 refine eC [0, 1, 0, 0, 12, 28, 60, 0, 0, 384, 896, 1920, 4092, 8191, 16383, 32767] (fun D r w => (D 15 = false ∧ ∃ (G' : Gh), G ≤ G' ∧ ap [(0, slice A a1.length B), (2, int .i64 J), (3, int .i64 K), (8, pointer (some ⟨y, 0, none⟩)), (9, pointer (some ⟨t, 0, none⟩)), (10, int .i64 b)] [] [(0, 35, pointer (some ⟨t, 0, none⟩)), (1, 36, int .i64 C), (2, 37, slice A a1.length B), (3, 38, int .i64 b), (4, 39, pointer (some (Z.add (Int.toNat b * 5)))), (5, 40, pointer (some ((Z.add (Int.toNat b * 5)).add 1))), (6, 41, int .i64 ((a1.getD (Int.toNat b) ag).X)), (7, 42, slice A a1.length B), (8, 43, int .i64 b), (9, 44, pointer (some (aa.add (Int.toNat b * 5)))), (10, 45, pointer (some ((aa.add (Int.toNat b * 5)).add 3))), (11, 46, int .i64 ((a1.getD (Int.toNat b) ag).W)), (12, 47, int .i64 (ax (((a1.getD (Int.toNat b) ag).X) + ((a1.getD (Int.toNat b) ag).W)))), (13, 48, int .i64 (max C (ax (((a1.getD (Int.toNat b) ag).X) + ((a1.getD (Int.toNat b) ag).W))))), (14, 49, pointer (some ⟨t, 0, none⟩))] D r ∧ Hp G' (bx t [int .i64 C, int .i64 E] 53 :: bx y [int .i64 0, int .i64 0] 53 :: L) w) ∨ (D 15 = true ∧ ∃ (G' : Gh), G ≤ G' ∧ ap [(0, slice A a1.length B), (2, int .i64 J), (3, int .i64 K), (8, pointer (some ⟨y, 0, none⟩)), (9, pointer (some ⟨t, 0, none⟩)), (10, int .i64 b)] [] [(0, 35, pointer (some ⟨t, 0, none⟩)), (1, 36, int .i64 C), (2, 37, slice A a1.length B), (3, 38, int .i64 b), (4, 39, pointer (some (Z.add (Int.toNat b * 5)))), (5, 40, pointer (some ((Z.add (Int.toNat b * 5)).add 1))), (6, 41, int .i64 ((a1.getD (Int.toNat b) ag).X)), (7, 42, slice A a1.length B), (8, 43, int .i64 b), (9, 44, pointer (some (aa.add (Int.toNat b * 5)))), (10, 45, pointer (some ((aa.add (Int.toNat b * 5)).add 3))), (11, 46, int .i64 ((a1.getD (Int.toNat b) ag).W)), (12, 47, int .i64 (ax (((a1.getD (Int.toNat b) ag).X) + ((a1.getD (Int.toNat b) ag).W)))), (13, 48, int .i64 (max C (ax (((a1.getD (Int.toNat b) ag).X) + ((a1.getD (Int.toNat b) ag).W))))), (14, 49, pointer (some ⟨t, 0, none⟩))] D r ∧ Hp G' (bx t [int .i64 (max C (ax (((a1.getD (Int.toNat b) ag).X) + ((a1.getD (Int.toNat b) ag).W)))), int .i64 E] 53 :: bx y [int .i64 0, int .i64 0] 53 :: L) w)) jD z z ?_ ?_ ?_
 exact (.inl ⟨z, _, Gh.le_refl _, ap.start ⟨z, z, z, z, z, z, tv⟩ trivial, V.drew⟩)
 refine ⟨?_, ?_, ?_, ?_, ?_, ?_, ?_, ?_, ?_, ?_, ?_, ?_, ?_, ?_, ?_, ?_, tv⟩
 rintro D r x (⟨c, p, h, a, d⟩ | ⟨f, p, h, a, d⟩) i l m
 obtain ⟨s, rfl⟩ := Has.ex (cC (a.ins.get 4 rfl) cN)
 exact fa kn z<|nl ⟨z, (.inl ⟨c, _, h, (ap.step a i z z z z), d⟩)⟩
 cases (m 15 rfl).symm.trans f
 rintro D r x (⟨c, p, h, a, d⟩ | ⟨f, p, h, a, d⟩) i l m
 obtain ⟨s, rfl⟩ := Has.ex (cC (a.get 0 rfl (l 0 rfl)) cN)
 exact ld d 0 bv z z z<|nl ⟨z, (.inl ⟨c, _, h, (ap.step a i z z z z), d⟩)⟩
 cases (m 15 rfl).symm.trans f
 rintro D r x (⟨c, p, h, a, d⟩ | ⟨f, p, h, a, d⟩) i l m
 obtain ⟨s, rfl⟩ := Has.ex (cC (a.ins.get 0 rfl) cN)
 exact mv z<|nl ⟨z, (.inl ⟨c, _, h, (ap.step a i z z z z), d⟩)⟩
 cases (m 15 rfl).symm.trans f
 rintro D r x (⟨c, p, h, a, d⟩ | ⟨f, p, h, a, d⟩) i l m
 obtain ⟨s, rfl⟩ := Has.ex (cC (a.ins.get 5 rfl) cN)
 exact mv z<|nl ⟨z, (.inl ⟨c, _, h, (ap.step a i z z z z), d⟩)⟩
 cases (m 15 rfl).symm.trans f
 rintro D r x (⟨c, p, h, a, d⟩ | ⟨f, p, h, a, d⟩) i l m
 obtain ⟨s, rfl⟩ := Has.ex (cC (a.get 2 rfl (l 2 rfl)) (cC (a.get 3 rfl (l 3 rfl)) cN))
 exact bP oh z a9 z ar au<|nl ⟨z, (.inl ⟨c, _, h, (ap.step a i z z z z), d⟩)⟩
 cases (m 15 rfl).symm.trans f
 rintro D r x (⟨c, p, h, a, d⟩ | ⟨f, p, h, a, d⟩) i l m
 obtain ⟨s, rfl⟩ := Has.ex (cC (a.get 4 rfl (l 4 rfl)) cN)
 exact lf sA z z<|nl ⟨z, (.inl ⟨c, _, h, (ap.step a i z z z z), d⟩)⟩
 cases (m 15 rfl).symm.trans f
 rintro D r x (⟨c, p, h, a, d⟩ | ⟨f, p, h, a, d⟩) i l m
 obtain ⟨s, rfl⟩ := Has.ex (cC (a.get 5 rfl (l 5 rfl)) cN)
 exact fO d bv z (h.cel _ _ (bc 1 _ z))<|nl ⟨z, (.inl ⟨c, _, h, (ap.step a i z z z z), d⟩)⟩
 cases (m 15 rfl).symm.trans f
 rintro D r x (⟨c, p, h, a, d⟩ | ⟨f, p, h, a, d⟩) i l m
 obtain ⟨s, rfl⟩ := Has.ex (cC (a.ins.get 0 rfl) cN)
 exact mv z<|nl ⟨z, (.inl ⟨c, _, h, (ap.step a i z z z z), d⟩)⟩
 cases (m 15 rfl).symm.trans f
 rintro D r x (⟨c, p, h, a, d⟩ | ⟨f, p, h, a, d⟩) i l m
 obtain ⟨s, rfl⟩ := Has.ex (cC (a.ins.get 5 rfl) cN)
 exact mv z<|nl ⟨z, (.inl ⟨c, _, h, (ap.step a i z z z z), d⟩)⟩
 cases (m 15 rfl).symm.trans f
 rintro D r x (⟨c, p, h, a, d⟩ | ⟨f, p, h, a, d⟩) i l m
 obtain ⟨s, rfl⟩ := Has.ex (cC (a.get 7 rfl (l 7 rfl)) (cC (a.get 8 rfl (l 8 rfl)) cN))
 exact bP oh z bd z av aw<|nl ⟨z, (.inl ⟨c, _, h, (ap.step a i z z z z), d⟩)⟩
 cases (m 15 rfl).symm.trans f
 rintro D r x (⟨c, p, h, a, d⟩ | ⟨f, p, h, a, d⟩) i l m
 obtain ⟨s, rfl⟩ := Has.ex (cC (a.get 9 rfl (l 9 rfl)) cN)
 exact lf vH z z<|nl ⟨z, (.inl ⟨c, _, h, (ap.step a i z z z z), d⟩)⟩
 cases (m 15 rfl).symm.trans f
 rintro D r x (⟨c, p, h, a, d⟩ | ⟨f, p, h, a, d⟩) i l m
 obtain ⟨s, rfl⟩ := Has.ex (cC (a.get 10 rfl (l 10 rfl)) cN)
 exact fO d bv z (h.cel _ _ (bg 3 _ z))<|nl ⟨z, (.inl ⟨c, _, h, (ap.step a i z z z z), d⟩)⟩
 cases (m 15 rfl).symm.trans f
 rintro D r x (⟨c, p, h, a, d⟩ | ⟨f, p, h, a, d⟩) i l m
 obtain ⟨s, rfl⟩ := Has.ex (cC (a.get 6 rfl (l 6 rfl)) (cC (a.get 11 rfl (l 11 rfl)) cN))
 exact ba z z<|nl ⟨z, (.inl ⟨c, _, h, (ap.step a i z z z z), d⟩)⟩
 cases (m 15 rfl).symm.trans f
 rintro D r x (⟨c, p, h, a, d⟩ | ⟨f, p, h, a, d⟩) i l m
 obtain ⟨s, rfl⟩ := Has.ex (cC (a.get 1 rfl (l 1 rfl)) (cC (a.get 12 rfl (l 12 rfl)) cN))
 exact rl z z<|nl ⟨z, (.inl ⟨c, _, h, (ap.step a i z z z z), d⟩)⟩
 cases (m 15 rfl).symm.trans f
 rintro D r x (⟨c, p, h, a, d⟩ | ⟨f, p, h, a, d⟩) i l m
 obtain ⟨s, rfl⟩ := Has.ex (cC (a.ins.get 4 rfl) cN)
 exact fa kn z<|nl ⟨z, (.inl ⟨c, _, h, (ap.step a i z z z z), d⟩)⟩
 cases (m 15 rfl).symm.trans f
 rintro D r x (⟨c, p, h, a, d⟩ | ⟨f, p, h, a, d⟩) i l m
 obtain ⟨s, rfl⟩ := Has.ex (cC (a.get 13 rfl (l 13 rfl)) (cC (a.get 14 rfl (l 14 rfl)) cN))
 exact fX d 0 bv z z z z z z z fun b4 bh=>nl ⟨z, (.inr ⟨z, _, h, (ap.stepN a z z), bh⟩)⟩
 cases i.symm.trans f
 intro D r x ad hR
 rcases hR with ⟨c, p, h, a, d⟩ | ⟨f, p, h, a, d⟩
 cases (ad 15 (Nat.le_of_ble_eq_true rfl)).symm.trans c
 obtain ⟨s, rfl⟩ := Has.ex (cC (a.ins.get 0 rfl) (cC (a.ins.get 1 rfl) (cC (a.ins.get 2 rfl) (cC (a.ins.get 3 rfl) (cC (a.ins.get 4 rfl) (cC (a.ins.get 5 rfl) cN))))))
 cases H
 exact je ⟨z, z, z, z, z, z, tv⟩ (Hp.low h d)
 refine nK T H fun H=>wf (bN T)<|iK H fun⟨ay, az⟩H=>?_
 obtain ⟨ab, b5, bi, bj, b6, bk⟩ := Dat.get O ag (b) ay az
 obtain ⟨rfl⟩ := bF bj
 refine eC [0, 1, 0, 0, 12, 28, 60, 127, 255, 511] (fun D r w => (D 9 = false ∧ ∃ (G' : Gh), G ≤ G' ∧ ap [(0, slice A a1.length B), (2, int .i64 J), (3, int .i64 K), (8, pointer (some ⟨y, 0, none⟩)), (9, pointer (some ⟨t, 0, none⟩)), (10, int .i64 b)] [] [(0, 50, pointer (some ⟨t, 1, none⟩)), (1, 51, int .i64 E), (2, 52, slice A a1.length B), (3, 53, int .i64 b), (4, 54, pointer (some (ab.add (Int.toNat b * 5)))), (5, 55, pointer (some ((ab.add (Int.toNat b * 5)).add 1))), (6, 56, int .i64 ((a1.getD (Int.toNat b) ag).X)), (7, 57, int .i64 (min E ((a1.getD (Int.toNat b) ag).X))), (8, 58, pointer (some ⟨t, 1, none⟩))] D r ∧ Hp G' (bx t [int .i64 C, int .i64 E] 53 :: bx y [int .i64 0, int .i64 0] 53 :: L) w) ∨ (D 9 = true ∧ ∃ (G' : Gh), G ≤ G' ∧ ap [(0, slice A a1.length B), (2, int .i64 J), (3, int .i64 K), (8, pointer (some ⟨y, 0, none⟩)), (9, pointer (some ⟨t, 0, none⟩)), (10, int .i64 b)] [] [(0, 50, pointer (some ⟨t, 1, none⟩)), (1, 51, int .i64 E), (2, 52, slice A a1.length B), (3, 53, int .i64 b), (4, 54, pointer (some (ab.add (Int.toNat b * 5)))), (5, 55, pointer (some ((ab.add (Int.toNat b * 5)).add 1))), (6, 56, int .i64 ((a1.getD (Int.toNat b) ag).X)), (7, 57, int .i64 (min E ((a1.getD (Int.toNat b) ag).X))), (8, 58, pointer (some ⟨t, 1, none⟩))] D r ∧ Hp G' (bx t [int .i64 C, int .i64 (min E ((a1.getD (Int.toNat b) ag).X))] 53 :: bx y [int .i64 0, int .i64 0] 53 :: L) w)) jD z z ?_ ?_ ?_
 exact (.inl ⟨z, _, Gh.le_refl _, ap.start ⟨z, z, z, z, z, z, tv⟩ trivial, V.drew⟩)
 refine ⟨?_, ?_, ?_, ?_, ?_, ?_, ?_, ?_, ?_, ?_, tv⟩
 rintro D r F (⟨c, u, q, k, n⟩ | ⟨f, u, q, k, n⟩) i l m
 obtain ⟨s, rfl⟩ := Has.ex (cC (k.ins.get 4 rfl) cN)
 exact fa kN z<|nl ⟨z, (.inl ⟨c, _, q, (ap.step k i z z z z), n⟩)⟩
 cases (m 9 rfl).symm.trans f
 rintro D r F (⟨c, u, q, k, n⟩ | ⟨f, u, q, k, n⟩) i l m
 obtain ⟨s, rfl⟩ := Has.ex (cC (k.get 0 rfl (l 0 rfl)) cN)
 exact ld n 0 bv z z z<|nl ⟨z, (.inl ⟨c, _, q, (ap.step k i z z z z), n⟩)⟩
 cases (m 9 rfl).symm.trans f
 rintro D r F (⟨c, u, q, k, n⟩ | ⟨f, u, q, k, n⟩) i l m
 obtain ⟨s, rfl⟩ := Has.ex (cC (k.ins.get 0 rfl) cN)
 exact mv z<|nl ⟨z, (.inl ⟨c, _, q, (ap.step k i z z z z), n⟩)⟩
 cases (m 9 rfl).symm.trans f
 rintro D r F (⟨c, u, q, k, n⟩ | ⟨f, u, q, k, n⟩) i l m
 obtain ⟨s, rfl⟩ := Has.ex (cC (k.ins.get 5 rfl) cN)
 exact mv z<|nl ⟨z, (.inl ⟨c, _, q, (ap.step k i z z z z), n⟩)⟩
 cases (m 9 rfl).symm.trans f
 rintro D r F (⟨c, u, q, k, n⟩ | ⟨f, u, q, k, n⟩) i l m
 obtain ⟨s, rfl⟩ := Has.ex (cC (k.get 2 rfl (l 2 rfl)) (cC (k.get 3 rfl (l 3 rfl)) cN))
 exact bP oh z bi z ay az<|nl ⟨z, (.inl ⟨c, _, q, (ap.step k i z z z z), n⟩)⟩
 cases (m 9 rfl).symm.trans f
 rintro D r F (⟨c, u, q, k, n⟩ | ⟨f, u, q, k, n⟩) i l m
 obtain ⟨s, rfl⟩ := Has.ex (cC (k.get 4 rfl (l 4 rfl)) cN)
 exact lf sA z z<|nl ⟨z, (.inl ⟨c, _, q, (ap.step k i z z z z), n⟩)⟩
 cases (m 9 rfl).symm.trans f
 rintro D r F (⟨c, u, q, k, n⟩ | ⟨f, u, q, k, n⟩) i l m
 obtain ⟨s, rfl⟩ := Has.ex (cC (k.get 5 rfl (l 5 rfl)) cN)
 exact fO n bv z (q.cel _ _ (bk 1 _ z))<|nl ⟨z, (.inl ⟨c, _, q, (ap.step k i z z z z), n⟩)⟩
 cases (m 9 rfl).symm.trans f
 rintro D r F (⟨c, u, q, k, n⟩ | ⟨f, u, q, k, n⟩) i l m
 obtain ⟨s, rfl⟩ := Has.ex (cC (k.get 1 rfl (l 1 rfl)) (cC (k.get 6 rfl (l 6 rfl)) cN))
 exact wn z z<|nl ⟨z, (.inl ⟨c, _, q, (ap.step k i z z z z), n⟩)⟩
 cases (m 9 rfl).symm.trans f
 rintro D r F (⟨c, u, q, k, n⟩ | ⟨f, u, q, k, n⟩) i l m
 obtain ⟨s, rfl⟩ := Has.ex (cC (k.ins.get 4 rfl) cN)
 exact fa kN z<|nl ⟨z, (.inl ⟨c, _, q, (ap.step k i z z z z), n⟩)⟩
 cases (m 9 rfl).symm.trans f
 rintro D r F (⟨c, u, q, k, n⟩ | ⟨f, u, q, k, n⟩) i l m
 obtain ⟨s, rfl⟩ := Has.ex (cC (k.get 7 rfl (l 7 rfl)) (cC (k.get 8 rfl (l 8 rfl)) cN))
 exact fX n 0 bv z z z z z z z fun b7 bl=>nl ⟨z, (.inr ⟨z, _, q, (ap.stepN k z z), bl⟩)⟩
 cases i.symm.trans f
 intro D r F ad hR
 rcases hR with ⟨c, u, q, k, n⟩ | ⟨f, u, q, k, n⟩
 cases (ad 9 (Nat.le_of_ble_eq_true rfl)).symm.trans c
 obtain ⟨s, rfl⟩ := Has.ex (cC (k.ins.get 0 rfl) (cC (k.ins.get 1 rfl) (cC (k.ins.get 2 rfl) (cC (k.ins.get 3 rfl) (cC (k.ins.get 4 rfl) (cC (k.ins.get 5 rfl) cN))))))
 cases H
 exact je ⟨z, z, z, z, z, z, tv⟩ (Hp.low q n)
 exact aP _ _ _<|ae<|mv z<|ba z z<|aj z<|nl<|ih _ _ _ _ H _ _ ⟨z, z, z, z, z, z, tv⟩ aS z
 refine nK R H fun H=>wf (bN R)<|wx<|?_
 cases H
 exact ⟨z, z, ⟨z, z, tv⟩, ai, tv⟩
 rintro e r ds b8 ⟨rfl, rfl, M, ak, _⟩
 rw [M.eq]; clear M
 refine aJ _ _ _<|sr fun b9 bn=>fa kn z<|ld ak 0 bv z z z<|fa kN z<|ld ak 0 bv z z z<|rl z z<|fa kN z<|fX ak 0 bv z z z z z z z fun ca aA=>nl<|bn _ _ _<|sr fun cb bo=>d9 aA 0 oF z z z z<|fX aA 1 oF z z z z z z z fun cc aC=>?_
 refine nl<|bo _ _ _<|wr<|have bp:=bW (P := Tryz.prog) aC 1 (cs := [int .i64 U, int .i64 (max U ah)]) (g := y) (o := 0) oF z z z;have bq:=Hp.pick 2 [] aC z;?_
 cases H
 exact rt ⟨_, _, _, z, z, bp, z⟩ bq
theorem mD {a1 a6 d f h i k n G L w} (H : ik a1 a6 d f = some (k, n)) (hI : Hp G L w) (p : a1.length ≤ i) (q : Dat bm G h a1) :
    Calls Tryz.prog 29 [slice h a1.length i, int .i64 a6, int .i64 d, int .i64 f].toArray w fun e w' => Hp G L w' ∧ e = .returned (tuple [agg [int .i64 k.Lo, int .i64 k.Hi].toArray, int .i64 n].toArray) := by
 refine ac (N := 36) Tryz.func29 z z (Nat.le_of_ble_eq_true z)<|?_
 unfold ik at H
 refine sr fun K9 y=>aM hI rp fun j ab A=>aj z<|nl<|y _ _ _<|sr fun ad B=>mv z<|mv z<|bK H fun C D H=>cv El (l4 D A p q) z z fun ae E=>aj z<|nl<|B _ _ _<|sr fun af F=>?_
 refine mv z<|bK H fun ag I H=>cv D0 (mw I E) z z fun ah J=>aj z<|nl<|F _ _ _<|sr fun ai K=>mv z<|bK H fun M O H=>cv AO (fW O J) z z fun ak l=>aj z<|nl<|K _ _ _<|sQ fun al Q=>?_
 refine sr fun am R=>mv z<|be z<|mv z<|bK H fun r hC H=>js 3 l [(0, slice h a1.length i), (1, int .i64 a6), (2, int .i64 d), (3, int .i64 f), (8, pointer (some ⟨j, 0, none⟩)), (12, bool M), (25, bool r)] ?_ fun _ an m=>?_
 refine have H:=hC;dC ((!C) = true) (fun a=>?_) fun a=>?_
 refine yK a H fun H=>Sk 2 z z (vY a) z<|bR (vY a) z<|nl<|?_
 cases H
 exact je ⟨z, z, z, z, z, z, z, tv⟩ l
 refine nK a H fun H=>mv (hw:=gY z z z (vN a)) z<|be (hw:=gY z z z (vN a)) z<|b7 (vN a) z<|nl<|?_
 cases H
 exact je ⟨z, z, z, z, z, z, z, tv⟩ l
 refine mv z<|bK H fun s hC H=>js 3 m [(0, slice h a1.length i), (1, int .i64 a6), (2, int .i64 d), (3, int .i64 f), (8, pointer (some ⟨j, 0, none⟩)), (29, bool s)] ?_ fun _ ao t=>?_
 refine have H:=hC;dC (r = true) (fun b=>?_) fun b=>?_
 refine yK b H fun H=>Sk 2 z z (vY b) z<|bR (vY b) z<|nl<|?_
 cases H
 exact je ⟨z, z, z, z, z, z, tv⟩ m
 refine nK b H fun H=>mv (hw:=gY z z z (vN b)) z<|be (hw:=gY z z z (vN b)) z<|b7 (vN b) z<|nl<|?_
 cases H
 exact je ⟨z, z, z, z, z, z, tv⟩ m
 refine nl<|R _ _ _<|dC (s = true) (fun c=>?_) fun c=>?_
 refine yK c H fun H=>wt (vY c)<|sr fun ap S=>bO (vs := []) (cs := [int .i64 0, int .i64 0]) rp Cr z z<|fX t 0 oF z z z z z z z fun aq u=>aj z<|nl<|S _ _ _<|wr<|have T:=bW (P := Tryz.prog) u 0 (cs := [int .i64 0, int .i64 0]) (g := j) (o := 0) oF z z z;have U:=Hp.pick 1 [] u z;?_
 cases H
 exact rt ⟨_, _, _, z, z, T, ⟨_, _, z, z, z⟩⟩ U
 refine nK c H fun H=>wf (vN c)<|ws<|Q _ _ _<|sr fun ar V=>mv z<|mv z<|mv z<|mv z<|bK H fun v W H=>cv bo58 (qj W t p q) z z fun au X=>fX X 0 oF z z z z z z z fun av x=>aj z<|nl<|?_
 refine V _ _ _<|wr<|have Y:=bW (P := Tryz.prog) x 0 (cs := [int .i64 v.Lo, int .i64 v.Hi]) (g := j) (o := 0) oF z z z;have Z:=Hp.pick 1 [] x z;?_
 cases H
 exact rt ⟨_, _, _, z, z, Y, ⟨_, _, z, z, z⟩⟩ Z
theorem lx {a1 a6 d g h t G L w} (H : eU a1 a6 d = some t) (hI : Hp G L w) (aJ : a1.length ≤ h) (i : Dat bm G g a1) :
    Calls Tryz.prog 30 [slice g a1.length h, int .i64 a6, int .i64 d].toArray w fun e w' => Hp G L w' ∧ e = .returned (int .i64 t) := by
 refine ac (N := 53) Tryz.func30 z z (Nat.le_of_ble_eq_true z)<|?_
 unfold eU at H
 refine sr fun K8 U=>aj z<|nl<|U _ _ _<|sr fun aM V=>aj z<|nl<|V _ _ _<|sQ fun aO Z=>sr fun aP aa=>aj z<|nl<|aa _ _ _<|wb<|?_
 refine bK H fun u hC H=>aq (Q := fun e r ds w => e = .exit 0 ∧ ds = [] ∧ Has [(7, int .i64 u)] r ∧ Hp G (L) w ∧ True) ?_ ?_
 refine aB fun I T=>?_
 refine dk.partial_correctness a1 a6 d (fun p b o => ∀ (r : Rg) (w : World), Has [(0, slice g a1.length h), (1, int .i64 a6), (2, int .i64 d), (7, int .i64 p), (8, int .i64 b)] r → Hp G (L) w → o = u → I r [] w) ?_ (-1) 0 _ hC _ _ ⟨rfl, rfl, rfl, rfl, rfl, tv⟩ hI rfl
 intro _ ih p b o H r aQ f q ho
 rw [ho] at H; clear ho
 rw [f.eq]; clear f
 refine T _ _ _<|sQ fun aR ab=>sr fun aS ad=>mv z<|mv z<|q_len vO z<|aN z z<|nl<|ad _ _ _<|dC (b < (a1.length : Int)) (fun k=>?_) fun k=>?_
 refine yK k H fun H=>wt (bY k)<|ws<|ab _ _ _<|sQ fun aT af=>bK H fun ah hC H=>jc .normal q [(0, slice g a1.length h), (1, int .i64 a6), (2, int .i64 d), (7, int .i64 ah), (8, int .i64 b)] ?_ fun _ aU ai=>?_
 refine have H:=hC;wb<|sQ fun aV ak=>bK H fun x hC H=>jc .normal q [(0, slice g a1.length h), (1, int .i64 a6), (2, int .i64 d), (7, int .i64 p), (8, int .i64 b), (40, bool x)] ?_ fun _ aW y=>?_
 refine have H:=hC;?_
 refine ie q jD (by kernel_rfl) ?_
 refine di (fun Gq w hGq Iq=>mv z aK) z z<|di (fun Gq w hGq Iq=>mv z aK) z z<|iK H fun⟨A, B⟩H=>?_
 obtain ⟨aX, aY, al, am, aZ, an⟩ := Dat.get i ag (b) A B
 obtain ⟨rfl⟩ := bF am
 refine di (fun Gq w hGq Iq=>bP oh z al z A B aK) z z<|di (fun Gq w hGq Iq=>ki Iq vc z (cs := [int .i64 ((a1.getD (Int.toNat b) ag).Side), int .i64 ((a1.getD (Int.toNat b) ag).X), int .i64 ((a1.getD (Int.toNat b) ag).Y), int .i64 ((a1.getD (Int.toNat b) ag).W), int .i64 ((a1.getD (Int.toNat b) ag).H)]) z (fun j v hv => hGq.cel _ _ (an j v hv)) aK) z z<|di (fun Gq w hGq Iq=>mv z aK) z z<|di (fun Gq w hGq Iq=>mv z aK) z z<|bK H fun C ao H=>?_
 refine wk (vs := [agg [int .i64 ((a1.getD (Int.toNat b) ag).Side), int .i64 ((a1.getD (Int.toNat b) ag).X), int .i64 ((a1.getD (Int.toNat b) ag).Y), int .i64 ((a1.getD (Int.toNat b) ag).W), int .i64 ((a1.getD (Int.toNat b) ag).H)].toArray, int .i64 a6, int .i64 d]) (v := bool C) DQ z z (fun Gq w hGq Iq => ?_) ?_
 refine Calls.mono (lp (a1 := (a1.getD (Int.toNat b) ag)) ao Iq)<|?_
 rintro _ w2 ⟨I2, rfl⟩
 exact ⟨z, _, hGq, I2⟩
 refine di (fun Gq w hGq Iq=>mv z aK) z z<|dC (C = true) (fun c=>?_) fun c=>?_
 refine yK c H fun H=>di (fun Gq w hGq Iq=>mv (hw:=gY z z z (vY c)) z aK) z z<|di (fun Gq w hGq Iq=>aN (hw:=gY z z z (vY c)) z z aK) z z<|di (fun Gq w hGq Iq=>mv (hw:=gY z z z (vY c)) z aK) z z<|dC (p < 0) (fun a=>?_) fun a=>?_
 refine yK a H fun H=>wp (aF z z z (bY a) z)<|wp (aF z z z (bY a) z)<|wp (aF z z z (bY a) z)<|wp (aF z z z (bY a) z)<|wp (aF z z z (bY a) z)<|wp (aF z z z (bY a) z)<|wp (aF z z z (bY a) z)<|wp (aF z z z (bY a) z)<|wp (aF z z z (bY a) z)<|wp (aF z z z (bY a) z)<|wp (aF z z z (bY a) z)<|wp (aF z z z (bY a) z)<|wp (aF z z z (bY a) z)<|?_
 refine di (fun Gq w hGq Iq=>bR (hw:=gY z z z (vY c)) (bY a) z aK) z z<|di (fun Gq w hGq Iq=>bR (vY c) z aK) z z<|wz fun D E l m=>?_
 cases H
 exact je ⟨z, z, z, z, z, z, tv⟩ (Hp.low l m)
 refine nK a H fun H=>di (fun Gq w hGq Iq=>mv (hw:=gY z z z (bN a)) z aK) z z<|di (fun Gq w hGq Iq=>mv (hw:=gY z z z (bN a)) z aK) z z<|iK H fun⟨F, J⟩H=>?_
 obtain ⟨a2, a3, ar, au, a4, av⟩ := Dat.get i ag (b) F J
 obtain ⟨rfl⟩ := bF au
 refine di (fun Gq w hGq Iq=>bP (hw:=gY z z z (bN a)) oh z ar z F J aK) z z<|di (fun Gq w hGq Iq=>lf (hw:=gY z z z (bN a)) nB z z aK) z z<|di (fun Gq w hGq Iq=>fO (hw:=gY z z z (bN a)) Iq bv z (hGq.cel _ _ (av 2 _ z)) aK) z z<|di (fun Gq w hGq Iq=>mv (hw:=gY z z z (bN a)) z aK) z z<|di (fun Gq w hGq Iq=>mv (hw:=gY z z z (bN a)) z aK) z z<|iK H fun⟨K, M⟩H=>?_
 obtain ⟨a5, a8, aw, ax, a9, ay⟩ := Dat.get i ag (b) K M
 obtain ⟨rfl⟩ := bF ax
 refine di (fun Gq w hGq Iq=>bP (hw:=gY z z z (bN a)) oh z aw z K M aK) z z<|di (fun Gq w hGq Iq=>lf (hw:=gY z z z (bN a)) nF z z aK) z z<|di (fun Gq w hGq Iq=>fO (hw:=gY z z z (bN a)) Iq bv z (hGq.cel _ _ (ay 4 _ z)) aK) z z<|di (fun Gq w hGq Iq=>ba (hw:=gY z z z (bN a)) z z aK) z z<|di (fun Gq w hGq Iq=>mv (hw:=gY z z z (bN a)) z aK) z z<|di (fun Gq w hGq Iq=>aN (hw:=gY z z z (bN a)) z z aK) z z<|di (fun Gq w hGq Iq=>b7 (hw:=gY z z z (vY c)) (bN a) z aK) z z<|di (fun Gq w hGq Iq=>bR (vY c) z aK) z z<|wz fun D E l m=>?_
 cases H
 exact je ⟨z, z, z, z, z, z, tv⟩ (Hp.low l m)
 refine nK c H fun H=>wp (aF z z z (vN c) z)<|wp (aF z z z (vN c) z)<|wp (aF z z z (vN c) z)<|wp (aF z z z z z)<|wp (aF z z z z z)<|wp (aF z z z z z)<|wp (aF z z z z z)<|wp (aF z z z z z)<|wp (aF z z z z z)<|wp (aF z z z z z)<|wp (aF z z z z z)<|wp (aF z z z z z)<|wp (aF z z z z z)<|?_
 refine wp (aF z z z z z)<|wp (aF z z z z z)<|wp (aF z z z z z)<|wp (aF z z z (vN c) z)<|di (fun Gq w hGq Iq=>b7 (vN c) z aK) z z<|wz fun D E l m=>?_
 cases H
 exact je ⟨z, z, z, z, z, z, tv⟩ (Hp.low l m)
 refine ak _ _ _<|dC (x = true) (fun n=>?_) fun n=>?_
 refine yK n H fun H=>wt (vY n)<|?_
 refine kZ jD (by kernel_rfl) ?_
 refine have s:=y.drew;wq (mv z aK) z<|wq (mv z aK) z<|iK H fun⟨O, P⟩H=>?_
 obtain ⟨bb, bc, az, aA, bd, aC⟩ := Dat.get i ag (b) O P
 obtain ⟨rfl⟩ := bF aA
 refine wq (bP oh z az z O P aK) z<|wq (lf nB z z aK) z<|wq (fO s bv z (gR.cel _ _ (aC 2 _ z)) aK) z<|wq (mv z aK) z<|wq (mv z aK) z<|iK H fun⟨R, S⟩H=>?_
 obtain ⟨be, bf, aD, aE, bg, aG⟩ := Dat.get i ag (b) R S
 obtain ⟨rfl⟩ := bF aE
 refine wq (bP oh z aD z R S aK) z<|wq (lf nF z z aK) z<|wq (fO s bv z (gR.cel _ _ (aG 4 _ z)) aK) z<|wq (ba z z aK) z<|wq (aj z aK) z<|ed<|?_
 cases H
 exact je ⟨z, z, z, z, z, tv⟩ s
 refine nK n H fun H=>wf (vN n)<|ws<|?_
 cases H
 exact je ⟨z, z, z, z, z, tv⟩ y
 exact af _ _ _<|ae<|mv z<|ba z z<|aj z<|nl<|ih _ _ _ H _ _ ⟨z, z, z, z, z, tv⟩ ai z
 refine nK k H fun H=>wf (bN k)<|wx<|?_
 cases H
 exact ⟨z, z, ⟨z, tv⟩, q, tv⟩
 rintro e r ds bh ⟨rfl, rfl, f, aH, _⟩
 rw [f.eq]; clear f
 refine Z _ _ _<|sr fun bi aI=>mv z<|aj z<|nl<|aI _ _ _<|wr<|?_
 cases H
 exact rt ⟨_, _, z, z, z⟩ aH
theorem p8 {a1 a2 d G L w} (H : kF a1 a2 = some d) (hI : Hp G L w) :
    Calls Tryz.prog 158 [string a1, int .i64 a2].toArray w fun e w' => Hp G L w' ∧ e = .returned (bool d) := by
 refine ac (N := 15) Tryz.func158 z z (Nat.le_of_ble_eq_true z)<|?_
 unfold kF at H
 refine sr fun n g=>aj z<|nl<|g _ _ _<|sr fun o h=>mv z<|bK H fun f i H=>cv xh (cH i hI) z z fun p c=>mv z<|bK H fun j hC H=>js 7 c [(14, bool j)] ?_ fun _ q k=>?_
 refine have H:=hC;dC (f = true) (fun a=>?_) fun a=>?_
 refine yK a H fun H=>mv (hw:=gY z z z (vY a)) z<|bA (hw:=gY z z z (vY a)) z z<|mv (hw:=gY z z z (vY a)) z<|bK H fun l hC H=>js 3 c [(7, bool f), (13, bool l)] ?_ fun _ r m=>?_
 refine have H:=hC;dC (a2 = 0) (fun b=>?_) fun b=>?_
 refine yK b H fun H=>Sk 2 z z (bY b) z<|bR (hw:=gY z z z (vY a)) (bY b) z<|nl<|?_
 cases H
 exact je ⟨z, z, tv⟩ c
 refine nK b H fun H=>mv (hw:=gY z z z (bN b)) z<|bA (hw:=gY z z z (bN b)) z z<|b7 (hw:=gY z z z (vY a)) (bN b) z<|nl<|?_
 cases H
 exact je ⟨z, z, tv⟩ c
 refine bR (vY a) z<|nl<|?_
 cases H
 exact je ⟨z, tv⟩ m
 refine nK a H fun H=>Sk 3 z z (vN a) z<|Su 2 z<|wN (gN z z z (vN a) z)<|b7 (vN a) z<|nl<|?_
 cases H
 exact je ⟨z, tv⟩ c
 refine aj z<|nl<|h _ _ _<|wr<|?_
 cases H
 exact rt ⟨_, _, z, z, z⟩ k
theorem f0 {a1 a G L w} (H : dv a1 = some a) (hI : Hp G L w) :
    Calls Tryz.prog 177 [int .u8 a1].toArray w fun e w' => Hp G L w' ∧ e = .returned (bool a) := by
 refine ac (N := 6) Tryz.func177 z z (Nat.le_of_ble_eq_true z)<|?_
 unfold dv at H
 refine sr fun g b=>aj z<|nl<|b _ _ _<|sr fun h c=>mv z<|bK H fun i d H=>cv yZ (dS d hI) z z fun j f=>cc z z<|aj z<|nl<|c _ _ _<|wr<|?_
 cases H
 exact rt ⟨_, _, z, z, z⟩ f
theorem nv {a1 a2 aQ G L w} (H : fy a1 a2 = some aQ) (hI : Hp G L w) :
    Calls Tryz.prog 159 [string a1, int .i64 a2].toArray w fun e w' => ∃ (aA : Option Addr) (aR : Nat) (aC : Nat) (G' : Gh), G ≤ G' ∧ Hp G' (gn G' (Kd.int .i64) aA [] aQ [] aC 3 :: L) w' ∧ aQ.length = aR ∧ Mw aA aA ([] : List Int).length aR aC aC 1 ∧ e = .returned (slice aA aR aC) := by
 refine ac (N := 105) Tryz.func159 z z (Nat.le_of_ble_eq_true z)<|?_
 unfold fy at H
 refine sr fun K3 c3=>aj z<|nl<|c3 _ _ _<|sr fun K5 c4=>mv z<|cX fA z<|iK H fun⟨h7, c6, c7⟩H=>yr (kd := (Kd.int .i64)) (z := (0 : Int)) hI dI vI z z z z h7 c6 c7 fun b a gj i c8=>aj z<|nl<|c4 _ _ _<|sr fun gk c9=>mv z<|?_
 refine aj z<|nl<|c9 _ _ _<|sQ fun gl da=>sr fun gm db=>aj z<|nl<|db _ _ _<|wb<|bK H fun aD hC H=>aq (Q := fun e r ds w => e = .exit 0 ∧ ∃ (aS : Gh) (A : Gh), ds = [] ∧ G ≤ A ∧ Has [(0, string a1), (1, int .i64 a2), (5, slice (some ⟨b, 0, none⟩) a a)] r ∧ Hp A (gn aS (Kd.int .i64) (some ⟨b, 0, none⟩) [] aD [] a 3 :: L) w ∧ aD.length = a ∧ aS ≤ A ∧ True) ?_ ?_
 refine aB fun I h=>?_
 refine cw.partial_correctness a1 (fun aT E aE o => ∀ (aU : Gh) (q : Gh) (r : Rg) (w : World), G ≤ q → Has [(0, string a1), (1, int .i64 a2), (5, slice (some ⟨b, 0, none⟩) a a), (6, int .i64 E), (7, int .i64 aE)] r → Hp q (gn aU (Kd.int .i64) (some ⟨b, 0, none⟩) [] aT [] a 3 :: L) w → aT.length = a → aU ≤ q → o = aD → I r [] w) ?_ (List.replicate (Int.toNat (a1.size : Int)) (0 : Int)) a2 0 _ hC G _ _ _ gR ⟨rfl, rfl, rfl, rfl, rfl, tv⟩ c8 i gR rfl
 intro _ ih aT E aE o H aU q r go b8 c b9 B aF ho
 rw [ho] at H; clear ho
 rw [c.eq]; clear c
 refine h _ _ _<|sQ fun gp dc=>sr fun gq dd=>mv z<|mv z<|cX fA z<|aN z z<|nl<|dd _ _ _<|dC (aE < (a1.size : Int)) (fun F=>?_) fun F=>?_
 refine yK F H fun H=>wt (bY F)<|ws<|dc _ _ _<|sQ fun gr de=>iJ H fun ca df hC H=>?_
 refine aq (Q := fun e r ds w => e = .normal ∧ ∃ (aV : Gh) (J : Gh), ds = [] ∧ q ≤ J ∧ Has [(0, string a1), (1, int .i64 a2), (5, slice (some ⟨b, 0, none⟩) a a), (6, int .i64 df), (7, int .i64 aE)] r ∧ Hp J (gn aV (Kd.int .i64) (some ⟨b, 0, none⟩) [] ca [] a 3 :: L) w ∧ ca.length = a ∧ aV ≤ J ∧ True) ?_ ?_
 refine have H:=hC;wb<|sQ fun gs aW=>sr fun gt dg=>mv z<|mv z<|iK H fun⟨dh, di⟩H=>gc fA z z dh di z<|bK H fun cb dj H=>cv yZ (dS dj b9) z z fun gu aX=>nl<|dg _ _ _<|wb<|sr fun gv dk=>?_
 refine bA z z<|aj z<|nl<|dk _ _ _<|dC (cb = 1) (fun K=>?_) fun K=>?_
 refine yK K H fun H=>wt (bY K)<|ae<|aj z<|nl<|aW _ _ _<|ae<|mv z<|mv z<|mv z<|iK H fun⟨aY, dn⟩H=>have aZ:=jK i dn;?_
 obtain ⟨gw, cd⟩ := Mw.ad (Mw.new (α := Int) b a 1) aY aZ
 refine bP dI z cd z aY aZ<|jI (kd := (Kd.int .i64)) aX 0 (v := int .i64 0) (news := [int .i64 0]) (0 : Int) 0 bv z (Mw.new (α := Int) b a 1) B cd aY aZ (add_zero' _) z z z z z (Nat.le_of_ble_eq_true z) gR (fun _ ho => dm ho z z) fun gx dp=>nl<|have dq:=Hp.rwUp dp 0 z aF;?_
 cases H
 exact ⟨z, q, _, z, gR, ⟨z, z, z, z, z, tv⟩, dq, (cB B), gR, tv⟩
 refine nK K H fun H=>wf (bN K)<|sr fun gy dr=>bA z z<|aj z<|nl<|dr _ _ _<|dC (cb = 2) (fun M=>?_) fun M=>?_
 refine yK M H fun H=>wt (bY M)<|ae<|aj z<|nl<|aW _ _ _<|ae<|mv z<|mv z<|mv z<|iK H fun⟨a0, dt⟩H=>have a3:=jK i dt;?_
 obtain ⟨gz, ce⟩ := Mw.ad (Mw.new (α := Int) b a 1) a0 a3
 refine bP dI z ce z a0 a3<|jI (kd := (Kd.int .i64)) aX 0 (v := int .i64 1) (news := [int .i64 1]) (0 : Int) 1 bv z (Mw.new (α := Int) b a 1) B ce a0 a3 (add_zero' _) z z z z z (Nat.le_of_ble_eq_true z) gR (fun _ ho => dm ho z z) fun gA du=>nl<|have dv:=Hp.rwUp du 0 z aF;?_
 cases H
 exact ⟨z, q, _, z, gR, ⟨z, z, z, z, z, tv⟩, dv, (cB B), gR, tv⟩
 refine nK M H fun H=>wf (bN M)<|ws<|aW _ _ _<|ae<|mv z<|mv z<|mv z<|iK H fun⟨a4, dw⟩H=>have a5:=jK i dw;?_
 obtain ⟨gB, cf⟩ := Mw.ad (Mw.new (α := Int) b a 1) a4 a5
 refine bP dI z cf z a4 a5<|jI (kd := (Kd.int .i64)) aX 0 (v := int .i64 E) (news := [int .i64 E]) (0 : Int) E bv z (Mw.new (α := Int) b a 1) B cf a4 a5 (add_zero' _) z z z z z (Nat.le_of_ble_eq_true z) gR (fun _ ho => dm ho z z) fun gC dx=>nl<|have dy:=Hp.rwUp dx 0 z aF;?_
 cases H
 exact ⟨z, q, _, z, gR, ⟨z, z, z, z, z, tv⟩, dy, (cB B), gR, tv⟩
 rintro e r ds gD ⟨rfl, aV, J, rfl, dz, c, dA, dB, dD, _⟩
 rw [c.eq]; clear c
 exact de _ _ _<|ae<|mv z<|ba z z<|aj z<|nl<|have dE:=Hp.rwUp dA 0 z dD;ih _ _ _ _ H J _ _ _ (gT b8 dz) ⟨z, z, z, z, z, tv⟩ dE dB gR z
 refine nK F H fun H=>wf (bN F)<|wx<|have dF:=Hp.rwUp b9 0 z aF;?_
 cases H
 exact ⟨z, q, _, z, b8, ⟨z, z, z, tv⟩, dF, B, gR, tv⟩
 rintro e r ds gE ⟨rfl, aS, A, rfl, dG, c, dH, dJ, dK, _⟩
 rw [c.eq]; clear c
 refine da _ _ _<|sQ fun gF dL=>sr fun gG dM=>aj z<|nl<|dM _ _ _<|wb<|bK H fun a6 hC H=>aq (Q := fun e r ds w => e = .exit 3 ∧ ∃ (a7 : Gh) (aG : Gh), ds = [] ∧ A ≤ aG ∧ Has [(5, slice (some ⟨b, 0, none⟩) a a)] r ∧ Hp aG (gn a7 (Kd.int .i64) (some ⟨b, 0, none⟩) [] a6 [] a 3 :: L) w ∧ a6.length = a ∧ a7 ≤ aG ∧ True) ?_ ?_
 refine have dN:=Hp.rwUp dH 0 z dK;aB fun I h=>?_
 refine aJ.partial_correctness a1 a2 (fun f d o => ∀ (C : Gh) (g : Gh) (r : Rg) (w : World), A ≤ g → Has [(0, string a1), (1, int .i64 a2), (5, slice (some ⟨b, 0, none⟩) a a), (8, int .i64 d)] r → Hp g (gn C (Kd.int .i64) (some ⟨b, 0, none⟩) [] f [] a 3 :: L) w → f.length = a → C ≤ g → o = a6 → I r [] w) ?_ aD 0 _ hC A _ _ _ gR ⟨rfl, rfl, rfl, rfl, tv⟩ dN dJ gR rfl
 intro _ ih f d o H C g r gH ch c cl s D ho
 rw [ho] at H; clear ho
 rw [c.eq]; clear c
 refine h _ _ _<|sQ fun gI dO=>sr fun gJ dP=>mv z<|mv z<|cX fA z<|aN z z<|nl<|dP _ _ _<|dC (d < (a1.size : Int)) (fun O=>?_) fun O=>?_
 refine yK O H fun H=>wt (bY O)<|ws<|dO _ _ _<|sQ fun gK dQ=>bK H fun cm hC H=>?_
 refine aq (Q := fun e r ds w => e = .normal ∧ ∃ (a8 : Gh) (P : Gh), ds = [] ∧ g ≤ P ∧ Has [(0, string a1), (1, int .i64 a2), (5, slice (some ⟨b, 0, none⟩) a a), (8, int .i64 d)] r ∧ Hp P (gn a8 (Kd.int .i64) (some ⟨b, 0, none⟩) [] cm [] a 3 :: L) w ∧ cm.length = a ∧ a8 ≤ P ∧ True) ?_ ?_
 refine have H:=hC;wb<|sQ fun gL dR=>sr fun gM dT=>mv z<|mv z<|iK H fun⟨dU, dV⟩H=>gc fA z z dU dV z<|bK H fun cn dW H=>cv yI (f0 dW cl) z z fun gO R=>be z<|mv z<|bK H fun co hC H=>js 10 R [(0, string a1), (1, int .i64 a2), (5, slice (some ⟨b, 0, none⟩) a a), (8, int .i64 d), (56, bool co)] ?_ fun _ gP aH=>?_
 refine have H:=hC;dC ((!cn) = true) (fun l=>?_) fun l=>?_
 refine yK l H fun H=>Sk 3 z z (vY l) z<|Su 5 z<|wN (gN z z z (vY l) z)<|bR (vY l) z<|nl<|?_
 cases H
 exact je ⟨z, z, z, z, z, tv⟩ R
 refine nK l H fun H=>mv (hw:=gY z z z (vN l)) z<|cc (hw:=gY z z z (vN l)) z z<|mv (hw:=gY z z z (vN l)) z<|bK H fun dX hC H=>js 6 R [(0, string a1), (1, int .i64 a2), (5, slice (some ⟨b, 0, none⟩) a a), (8, int .i64 d), (46, bool (!cn)), (47, int .i64 d), (48, bool (decide (0 < d))), (49, bool (decide (0 < d))), (55, bool dX)] ?_ fun _ gQ dY=>?_
 refine have H:=hC;dC (0 < d) (fun m=>?_) fun m=>?_
 refine yK m H fun H=>mv (hw:=gY z z z (bY m)) z<|mv (hw:=gY z z z (bY m)) z<|dl (hw:=gY z z z (bY m)) z z<|iK H fun⟨dZ, d0⟩H=>gc (hw:=gY z z z (bY m)) fA z z dZ d0 z<|bK H fun gS d1 H=>cv (hw:=gY z z z (bY m)) yI (f0 d1 R) z z fun gU d2=>bR (hw:=gY z z z (vN l)) (bY m) z<|nl<|?_
 cases H
 exact je ⟨z, z, z, z, z, z, z, z, z, tv⟩ d2
 refine nK m H fun H=>Sk 5 z z (bN m) z<|b7 (hw:=gY z z z (vN l)) (bN m) z<|nl<|?_
 cases H
 exact je ⟨z, z, z, z, z, z, z, z, z, tv⟩ R
 refine b7 (vN l) z<|nl<|?_
 cases H
 exact je ⟨z, z, z, z, z, tv⟩ dY
 refine nl<|dT _ _ _<|dC (co = true) (fun S=>?_) fun S=>?_
 refine yK S H fun H=>wt (vY S)<|wx<|have d3:=Hp.rwUp aH 0 z D;?_
 cases H
 exact ⟨z, g, _, z, gR, ⟨z, z, z, z, tv⟩, d3, s, gR, tv⟩
 refine nK S H fun H=>wf (vN S)<|ws<|dR _ _ _<|sr fun gV d4=>mv z<|aj z<|nl<|d4 _ _ _<|sQ fun gW cp=>sr fun gX d5=>mv z<|cc z z<|nl<|?_
 refine d5 _ _ _<|dC (0 < d) (fun T=>?_) fun T=>?_
 refine yK T H fun H=>wt (bY T)<|ae<|mv z<|mv z<|dl z z<|iK H fun⟨a9, d6⟩H=>have bb:=jK i d6;?_
 obtain ⟨gZ, cq⟩ := Mw.ad (Mw.new (α := Int) b a 1) a9 bb
 refine bP dI z cq z a9 bb<|?_
 obtain ⟨_, rfl, _, d7⟩ := Hp.rwGet aH 0 rfl (Mw.new (α := Int) b a 1) s cq (0 : Int) a9 bb
 refine jH (v := int .i64 (f.getD (Int.toNat (ax (d - 1))) (0 : Int))) bv z (cell0 (d7 0 _ z))<|aj z<|nl<|cp _ _ _<|sr fun g0 d8=>mv z<|aj z<|nl<|d8 _ _ _<|sQ fun g1 d9=>wb<|bK H fun j hC H=>?_
 refine aq (Q := fun e r ds w => e = .exit 5 ∧ ds = [] ∧ Has [(0, string a1), (1, int .i64 a2), (5, slice (some ⟨b, 0, none⟩) a a), (8, int .i64 d), (9, int .i64 (f.getD (Int.toNat (ax (d - 1))) (0 : Int))), (10, int .i64 j)] r ∧ Hp g (gn C (Kd.int .i64) (some ⟨b, 0, none⟩) [] f [] a 3 :: L) w ∧ True) ?_ ?_
 refine aB fun I h=>?_
 refine cM.partial_correctness a1 (fun aI o => ∀ (r : Rg) (w : World), Has [(0, string a1), (1, int .i64 a2), (5, slice (some ⟨b, 0, none⟩) a a), (8, int .i64 d), (9, int .i64 (f.getD (Int.toNat (ax (d - 1))) (0 : Int))), (10, int .i64 aI)] r → Hp g (gn C (Kd.int .i64) (some ⟨b, 0, none⟩) [] f [] a 3 :: L) w → o = j → I r [] w) ?_ d _ hC _ _ ⟨rfl, rfl, rfl, rfl, rfl, rfl, tv⟩ aH rfl
 intro _ ih aI o H r g2 c bc ho
 rw [ho] at H; clear ho
 rw [c.eq]; clear c
 refine h _ _ _<|sQ fun g3 ea=>sr fun g4 eb=>mv z<|mv z<|cX fA z<|aN z z<|mv z<|bK H fun cr hC H=>js 5 bc [(0, string a1), (1, int .i64 a2), (5, slice (some ⟨b, 0, none⟩) a a), (8, int .i64 d), (9, int .i64 (f.getD (Int.toNat (ax (d - 1))) (0 : Int))), (10, int .i64 aI), (75, bool cr)] ?_ fun _ g5 cs=>?_
 refine have H:=hC;dC (aI < (a1.size : Int)) (fun n=>?_) fun n=>?_
 refine yK n H fun H=>mv (hw:=gY z z z (bY n)) z<|mv (hw:=gY z z z (bY n)) z<|iK H fun⟨ec, ed⟩H=>gc (hw:=gY z z z (bY n)) fA z z ec ed z<|bK H fun g6 ee H=>cv (hw:=gY z z z (bY n)) yI (f0 ee bc) z z fun g7 ef=>bR (bY n) z<|nl<|?_
 cases H
 exact je ⟨z, z, z, z, z, z, z, tv⟩ ef
 refine nK n H fun H=>Sk 4 z z (bN n) z<|b7 (bN n) z<|nl<|?_
 cases H
 exact je ⟨z, z, z, z, z, z, z, tv⟩ bc
 refine nl<|eb _ _ _<|dC (cr = true) (fun U=>?_) fun U=>?_
 exact yK U H fun H=>wt (vY U)<|ws<|ea _ _ _<|wb<|ae<|mv z<|ba z z<|aj z<|nl<|ih _ _ H _ _ ⟨z, z, z, z, z, z, tv⟩ cs z
 refine nK U H fun H=>wf (vN U)<|wx<|?_
 cases H
 exact ⟨z, z, ⟨z, z, z, z, z, z, tv⟩, cs, tv⟩
 rintro e r ds g8 ⟨rfl, rfl, c, bd, _⟩
 rw [c.eq]; clear c
 refine d9 _ _ _<|sr fun ha eg=>mv z<|aj z<|nl<|eg _ _ _<|sQ fun hb ct=>sr fun hc eh=>mv z<|mv z<|cX fA z<|aN z z<|nl<|eh _ _ _<|?_
 refine dC (j < (a1.size : Int)) (fun V=>?_) fun V=>?_
 refine yK V H fun H=>wt (bY V)<|ae<|mv z<|mv z<|iK H fun⟨bf, ei⟩H=>have bg:=jK i ei;?_
 obtain ⟨hd, cu⟩ := Mw.ad (Mw.new (α := Int) b a 1) bf bg
 refine bP dI z cu z bf bg<|?_
 obtain ⟨_, rfl, _, ej⟩ := Hp.rwGet bd 0 rfl (Mw.new (α := Int) b a 1) s cu (0 : Int) bf bg
 refine jH (v := int .i64 (f.getD (Int.toNat j) (0 : Int))) bv z (cell0 (ej 0 _ z))<|aj z<|nl<|ct _ _ _<|sr fun he ek=>mv z<|aj z<|nl<|ek _ _ _<|wb<|bK H fun bh hC H=>?_
 refine aq (Q := fun e r ds w => e = .exit 7 ∧ ∃ (bi : Gh) (W : Gh), ds = [] ∧ g ≤ W ∧ Has [(0, string a1), (1, int .i64 a2), (5, slice (some ⟨b, 0, none⟩) a a), (8, int .i64 d)] r ∧ Hp W (gn bi (Kd.int .i64) (some ⟨b, 0, none⟩) [] bh [] a 3 :: L) w ∧ bh.length = a ∧ bi ≤ W ∧ True) ?_ ?_
 refine have el:=Hp.rwUp bd 0 z D;aB fun I h=>?_
 refine ci.partial_correctness a1 a2 f d j (fun bj aK o => ∀ (bk : Gh) (t : Gh) (r : Rg) (w : World), g ≤ t → Has [(0, string a1), (1, int .i64 a2), (5, slice (some ⟨b, 0, none⟩) a a), (8, int .i64 d), (9, int .i64 (f.getD (Int.toNat (ax (d - 1))) (0 : Int))), (10, int .i64 j), (11, int .i64 (f.getD (Int.toNat j) (0 : Int))), (12, int .i64 aK)] r → Hp t (gn bk (Kd.int .i64) (some ⟨b, 0, none⟩) [] bj [] a 3 :: L) w → bj.length = a → bk ≤ t → o = bh → I r [] w) ?_ f d _ hC g _ _ _ gR ⟨rfl, rfl, rfl, rfl, rfl, rfl, rfl, rfl, tv⟩ el s gR rfl
 intro _ ih bj aK o H bk t r hf cx c cy X bl ho
 rw [ho] at H; clear ho
 rw [c.eq]; clear c
 refine h _ _ _<|sQ fun hg em=>sr fun hh en=>mv z<|mv z<|aN z z<|nl<|en _ _ _<|dC (aK < j) (fun Y=>?_) fun Y=>?_
 refine yK Y H fun H=>wt (bY Y)<|ws<|em _ _ _<|sQ fun hi eo=>bK H fun cz hC H=>?_
 refine aq (Q := fun e r ds w => e = .normal ∧ ∃ (bm : Gh) (Z : Gh), ds = [] ∧ t ≤ Z ∧ Has [(0, string a1), (1, int .i64 a2), (5, slice (some ⟨b, 0, none⟩) a a), (8, int .i64 d), (9, int .i64 (f.getD (Int.toNat (ax (d - 1))) (0 : Int))), (10, int .i64 j), (11, int .i64 (f.getD (Int.toNat j) (0 : Int))), (12, int .i64 aK)] r ∧ Hp Z (gn bm (Kd.int .i64) (some ⟨b, 0, none⟩) [] cz [] a 3 :: L) w ∧ cz.length = a ∧ bm ≤ Z ∧ True) ?_ ?_
 refine have H:=hC;wb<|sr fun hj ep=>mv z<|mv z<|mv z<|iK H fun⟨bn, er⟩H=>have bo:=jK i er;?_
 obtain ⟨hk, cA⟩ := Mw.ad (Mw.new (α := Int) b a 1) bn bo
 refine bP dI z cA z bn bo<|jI (kd := (Kd.int .i64)) cy 0 (v := int .i64 a2) (news := [int .i64 a2]) (0 : Int) a2 bv z (Mw.new (α := Int) b a 1) X cA bn bo (add_zero' _) z z z z z (Nat.le_of_ble_eq_true z) gR (fun _ ho => dm ho z z) fun hl cC=>nl<|ep _ _ _<|sr fun hm es=>mv z<|mv z<|bA z z<|nl<|es _ _ _<|dC ((f.getD (Int.toNat (ax (d - 1))) (0 : Int)) = (f.getD (Int.toNat j) (0 : Int))) (fun aa=>?_) fun aa=>?_
 refine yK aa H fun H=>wt (bY aa)<|ae<|mv z<|mv z<|mv z<|iK H fun⟨bp, et⟩H=>have bq:=jK i et;?_
 obtain ⟨hn, cD⟩ := Mw.ad (Mw.new (α := Int) b a 1) bp bq
 refine bP dI z cD z bp bq<|jI (kd := (Kd.int .i64)) cC 0 (v := int .i64 (f.getD (Int.toNat (ax (d - 1))) (0 : Int))) (news := [int .i64 (f.getD (Int.toNat (ax (d - 1))) (0 : Int))]) (0 : Int) (f.getD (Int.toNat (ax (d - 1))) (0 : Int)) bv z (Mw.new (α := Int) b a 1) (cB X) cD bp bq (add_zero' _) z z z z z (Nat.le_of_ble_eq_true z) gR (fun _ ho => dm ho z z) fun hp eu=>nl<|have ev:=Hp.rwUp eu 0 z bl;?_
 cases H
 exact ⟨z, t, _, z, gR, ⟨z, z, z, z, z, z, z, z, tv⟩, ev, (cB (cB X)), gR, tv⟩
 refine nK aa H fun H=>wf (bN aa)<|ws<|have ew:=Hp.rwUp cC 0 z bl;?_
 cases H
 exact ⟨z, t, _, z, gR, ⟨z, z, z, z, z, z, z, z, tv⟩, ew, (cB X), gR, tv⟩
 rintro e r ds hq ⟨rfl, bm, Z, rfl, ex, c, ey, ez, eA, _⟩
 rw [c.eq]; clear c
 exact eo _ _ _<|ae<|mv z<|ba z z<|aj z<|nl<|have eB:=Hp.rwUp ey 0 z eA;ih _ _ _ H Z _ _ _ (gT cx ex) ⟨z, z, z, z, z, z, z, z, tv⟩ eB ez gR z
 refine nK Y H fun H=>wf (bN Y)<|wx<|have eC:=Hp.rwUp cy 0 z bl;?_
 cases H
 exact ⟨z, t, _, z, cx, ⟨z, z, z, z, tv⟩, eC, X, gR, tv⟩
 rintro e r ds hr ⟨rfl, bi, W, rfl, eD, c, eE, eF, eG, _⟩
 rw [c.eq]; clear c
 refine have eH:=Hp.rwUp eE 0 z eG;?_
 cases H
 exact ⟨z, W, _, z, eD, ⟨z, z, z, z, tv⟩, eH, eF, gR, tv⟩
 refine nK V H fun H=>wf (bN V)<|ws<|ct _ _ _<|sr fun hs eI=>mv z<|aj z<|nl<|eI _ _ _<|wb<|bK H fun br hC H=>?_
 refine aq (Q := fun e r ds w => e = .exit 7 ∧ ∃ (bs : Gh) (ab : Gh), ds = [] ∧ g ≤ ab ∧ Has [(0, string a1), (1, int .i64 a2), (5, slice (some ⟨b, 0, none⟩) a a), (8, int .i64 d)] r ∧ Hp ab (gn bs (Kd.int .i64) (some ⟨b, 0, none⟩) [] br [] a 3 :: L) w ∧ br.length = a ∧ bs ≤ ab ∧ True) ?_ ?_
 refine have eJ:=Hp.rwUp bd 0 z D;aB fun I h=>?_
 refine cj.partial_correctness a1 a2 f d j (fun bt aL o => ∀ (bu : Gh) (u : Gh) (r : Rg) (w : World), g ≤ u → Has [(0, string a1), (1, int .i64 a2), (5, slice (some ⟨b, 0, none⟩) a a), (8, int .i64 d), (9, int .i64 (f.getD (Int.toNat (ax (d - 1))) (0 : Int))), (10, int .i64 j), (11, int .i64 a2), (12, int .i64 aL)] r → Hp u (gn bu (Kd.int .i64) (some ⟨b, 0, none⟩) [] bt [] a 3 :: L) w → bt.length = a → bu ≤ u → o = br → I r [] w) ?_ f d _ hC g _ _ _ gR ⟨rfl, rfl, rfl, rfl, rfl, rfl, rfl, rfl, tv⟩ eJ s gR rfl
 intro _ ih bt aL o H bu u r ht cE c cF af bw ho
 rw [ho] at H; clear ho
 rw [c.eq]; clear c
 refine h _ _ _<|sQ fun hu eK=>sr fun hv eL=>mv z<|mv z<|aN z z<|nl<|eL _ _ _<|dC (aL < j) (fun ag=>?_) fun ag=>?_
 refine yK ag H fun H=>wt (bY ag)<|ws<|eK _ _ _<|sQ fun hx eM=>bK H fun cG hC H=>?_
 refine aq (Q := fun e r ds w => e = .normal ∧ ∃ (bx : Gh) (ah : Gh), ds = [] ∧ u ≤ ah ∧ Has [(0, string a1), (1, int .i64 a2), (5, slice (some ⟨b, 0, none⟩) a a), (8, int .i64 d), (9, int .i64 (f.getD (Int.toNat (ax (d - 1))) (0 : Int))), (10, int .i64 j), (11, int .i64 a2), (12, int .i64 aL)] r ∧ Hp ah (gn bx (Kd.int .i64) (some ⟨b, 0, none⟩) [] cG [] a 3 :: L) w ∧ cG.length = a ∧ bx ≤ ah ∧ True) ?_ ?_
 refine have H:=hC;wb<|sr fun hy eN=>mv z<|mv z<|mv z<|iK H fun⟨bz, eO⟩H=>have bB:=jK i eO;?_
 obtain ⟨hz, cH⟩ := Mw.ad (Mw.new (α := Int) b a 1) bz bB
 refine bP dI z cH z bz bB<|jI (kd := (Kd.int .i64)) cF 0 (v := int .i64 a2) (news := [int .i64 a2]) (0 : Int) a2 bv z (Mw.new (α := Int) b a 1) af cH bz bB (add_zero' _) z z z z z (Nat.le_of_ble_eq_true z) gR (fun _ ho => dm ho z z) fun hA cI=>nl<|eN _ _ _<|sr fun hB eP=>mv z<|mv z<|bA z z<|nl<|eP _ _ _<|dC ((f.getD (Int.toNat (ax (d - 1))) (0 : Int)) = a2) (fun ai=>?_) fun ai=>?_
 refine yK ai H fun H=>wt (bY ai)<|ae<|mv z<|mv z<|mv z<|iK H fun⟨bC, eQ⟩H=>have bD:=jK i eQ;?_
 obtain ⟨hD, cJ⟩ := Mw.ad (Mw.new (α := Int) b a 1) bC bD
 refine bP dI z cJ z bC bD<|jI (kd := (Kd.int .i64)) cI 0 (v := int .i64 (f.getD (Int.toNat (ax (d - 1))) (0 : Int))) (news := [int .i64 (f.getD (Int.toNat (ax (d - 1))) (0 : Int))]) (0 : Int) (f.getD (Int.toNat (ax (d - 1))) (0 : Int)) bv z (Mw.new (α := Int) b a 1) (cB af) cJ bC bD (add_zero' _) z z z z z (Nat.le_of_ble_eq_true z) gR (fun _ ho => dm ho z z) fun hE eR=>nl<|have eS:=Hp.rwUp eR 0 z bw;?_
 cases H
 exact ⟨z, u, _, z, gR, ⟨z, z, z, z, z, z, z, z, tv⟩, eS, (cB (cB af)), gR, tv⟩
 refine nK ai H fun H=>wf (bN ai)<|ws<|have eT:=Hp.rwUp cI 0 z bw;?_
 cases H
 exact ⟨z, u, _, z, gR, ⟨z, z, z, z, z, z, z, z, tv⟩, eT, (cB af), gR, tv⟩
 rintro e r ds hF ⟨rfl, bx, ah, rfl, eU, c, eV, eW, eX, _⟩
 rw [c.eq]; clear c
 exact eM _ _ _<|ae<|mv z<|ba z z<|aj z<|nl<|have eY:=Hp.rwUp eV 0 z eX;ih _ _ _ H ah _ _ _ (gT cE eU) ⟨z, z, z, z, z, z, z, z, tv⟩ eY eW gR z
 refine nK ag H fun H=>wf (bN ag)<|wx<|have eZ:=Hp.rwUp cF 0 z bw;?_
 cases H
 exact ⟨z, u, _, z, cE, ⟨z, z, z, z, tv⟩, eZ, af, gR, tv⟩
 rintro e r ds hG ⟨rfl, bs, ab, rfl, e0, c, e1, e2, e3, _⟩
 rw [c.eq]; clear c
 refine have e4:=Hp.rwUp e1 0 z e3;?_
 cases H
 exact ⟨z, ab, _, z, e0, ⟨z, z, z, z, tv⟩, e4, e2, gR, tv⟩
 refine nK T H fun H=>wf (bN T)<|ws<|cp _ _ _<|sr fun hH e5=>mv z<|aj z<|nl<|e5 _ _ _<|sQ fun hJ e6=>wb<|bK H fun k hC H=>aq (Q := fun e r ds w => e = .exit 5 ∧ ds = [] ∧ Has [(0, string a1), (1, int .i64 a2), (5, slice (some ⟨b, 0, none⟩) a a), (8, int .i64 d), (9, int .i64 a2), (10, int .i64 k)] r ∧ Hp g (gn C (Kd.int .i64) (some ⟨b, 0, none⟩) [] f [] a 3 :: L) w ∧ True) ?_ ?_
 refine aB fun I h=>?_
 refine cR.partial_correctness a1 (fun aM o => ∀ (r : Rg) (w : World), Has [(0, string a1), (1, int .i64 a2), (5, slice (some ⟨b, 0, none⟩) a a), (8, int .i64 d), (9, int .i64 a2), (10, int .i64 aM)] r → Hp g (gn C (Kd.int .i64) (some ⟨b, 0, none⟩) [] f [] a 3 :: L) w → o = k → I r [] w) ?_ d _ hC _ _ ⟨rfl, rfl, rfl, rfl, rfl, rfl, tv⟩ aH rfl
 intro _ ih aM o H r hK c bE ho
 rw [ho] at H; clear ho
 rw [c.eq]; clear c
 refine h _ _ _<|sQ fun hL e7=>sr fun hM e8=>mv z<|mv z<|cX fA z<|aN z z<|mv z<|bK H fun cK hC H=>js 5 bE [(0, string a1), (1, int .i64 a2), (5, slice (some ⟨b, 0, none⟩) a a), (8, int .i64 d), (9, int .i64 a2), (10, int .i64 aM), (75, bool cK)] ?_ fun _ hN cL=>?_
 refine have H:=hC;dC (aM < (a1.size : Int)) (fun p=>?_) fun p=>?_
 refine yK p H fun H=>mv (hw:=gY z z z (bY p)) z<|mv (hw:=gY z z z (bY p)) z<|iK H fun⟨e9, fa⟩H=>gc (hw:=gY z z z (bY p)) fA z z e9 fa z<|bK H fun hO fb H=>cv (hw:=gY z z z (bY p)) yI (f0 fb bE) z z fun hP fc=>bR (bY p) z<|nl<|?_
 cases H
 exact je ⟨z, z, z, z, z, z, z, tv⟩ fc
 refine nK p H fun H=>Sk 4 z z (bN p) z<|b7 (bN p) z<|nl<|?_
 cases H
 exact je ⟨z, z, z, z, z, z, z, tv⟩ bE
 refine nl<|e8 _ _ _<|dC (cK = true) (fun ak=>?_) fun ak=>?_
 exact yK ak H fun H=>wt (vY ak)<|ws<|e7 _ _ _<|wb<|ae<|mv z<|ba z z<|aj z<|nl<|ih _ _ H _ _ ⟨z, z, z, z, z, z, tv⟩ cL z
 refine nK ak H fun H=>wf (vN ak)<|wx<|?_
 cases H
 exact ⟨z, z, ⟨z, z, z, z, z, z, tv⟩, cL, tv⟩
 rintro e r ds hQ ⟨rfl, rfl, c, bF, _⟩
 rw [c.eq]; clear c
 refine e6 _ _ _<|sr fun hR fd=>mv z<|aj z<|nl<|fd _ _ _<|sQ fun hS cN=>sr fun hT fe=>mv z<|mv z<|cX fA z<|aN z z<|nl<|fe _ _ _<|?_
 refine dC (k < (a1.size : Int)) (fun al=>?_) fun al=>?_
 refine yK al H fun H=>wt (bY al)<|ae<|mv z<|mv z<|iK H fun⟨bG, ff⟩H=>have bH:=jK i ff;?_
 obtain ⟨hU, cO⟩ := Mw.ad (Mw.new (α := Int) b a 1) bG bH
 refine bP dI z cO z bG bH<|?_
 obtain ⟨_, rfl, _, fg⟩ := Hp.rwGet bF 0 rfl (Mw.new (α := Int) b a 1) s cO (0 : Int) bG bH
 refine jH (v := int .i64 (f.getD (Int.toNat k) (0 : Int))) bv z (cell0 (fg 0 _ z))<|aj z<|nl<|cN _ _ _<|sr fun hV fh=>mv z<|aj z<|nl<|fh _ _ _<|wb<|bK H fun bI hC H=>?_
 refine aq (Q := fun e r ds w => e = .exit 7 ∧ ∃ (bJ : Gh) (am : Gh), ds = [] ∧ g ≤ am ∧ Has [(0, string a1), (1, int .i64 a2), (5, slice (some ⟨b, 0, none⟩) a a), (8, int .i64 d)] r ∧ Hp am (gn bJ (Kd.int .i64) (some ⟨b, 0, none⟩) [] bI [] a 3 :: L) w ∧ bI.length = a ∧ bJ ≤ am ∧ True) ?_ ?_
 refine have fi:=Hp.rwUp bF 0 z D;aB fun I h=>?_
 refine ck.partial_correctness a1 a2 f k (fun bL aO o => ∀ (bM : Gh) (x : Gh) (r : Rg) (w : World), g ≤ x → Has [(0, string a1), (1, int .i64 a2), (5, slice (some ⟨b, 0, none⟩) a a), (8, int .i64 d), (9, int .i64 a2), (10, int .i64 k), (11, int .i64 (f.getD (Int.toNat k) (0 : Int))), (12, int .i64 aO)] r → Hp x (gn bM (Kd.int .i64) (some ⟨b, 0, none⟩) [] bL [] a 3 :: L) w → bL.length = a → bM ≤ x → o = bI → I r [] w) ?_ f d _ hC g _ _ _ gR ⟨rfl, rfl, rfl, rfl, rfl, rfl, rfl, rfl, tv⟩ fi s gR rfl
 intro _ ih bL aO o H bM x r hW cP c cQ an bO ho
 rw [ho] at H; clear ho
 rw [c.eq]; clear c
 refine h _ _ _<|sQ fun hX fj=>sr fun hY fk=>mv z<|mv z<|aN z z<|nl<|fk _ _ _<|dC (aO < k) (fun ao=>?_) fun ao=>?_
 refine yK ao H fun H=>wt (bY ao)<|ws<|fj _ _ _<|sQ fun hZ fl=>bK H fun cS hC H=>?_
 refine aq (Q := fun e r ds w => e = .normal ∧ ∃ (bQ : Gh) (ap : Gh), ds = [] ∧ x ≤ ap ∧ Has [(0, string a1), (1, int .i64 a2), (5, slice (some ⟨b, 0, none⟩) a a), (8, int .i64 d), (9, int .i64 a2), (10, int .i64 k), (11, int .i64 (f.getD (Int.toNat k) (0 : Int))), (12, int .i64 aO)] r ∧ Hp ap (gn bQ (Kd.int .i64) (some ⟨b, 0, none⟩) [] cS [] a 3 :: L) w ∧ cS.length = a ∧ bQ ≤ ap ∧ True) ?_ ?_
 refine have H:=hC;wb<|sr fun h0 fm=>mv z<|mv z<|mv z<|iK H fun⟨bS, fn⟩H=>have bT:=jK i fn;?_
 obtain ⟨h1, cT⟩ := Mw.ad (Mw.new (α := Int) b a 1) bS bT
 refine bP dI z cT z bS bT<|jI (kd := (Kd.int .i64)) cQ 0 (v := int .i64 a2) (news := [int .i64 a2]) (0 : Int) a2 bv z (Mw.new (α := Int) b a 1) an cT bS bT (add_zero' _) z z z z z (Nat.le_of_ble_eq_true z) gR (fun _ ho => dm ho z z) fun h2 cU=>nl<|fm _ _ _<|sr fun h3 fo=>mv z<|mv z<|bA z z<|nl<|fo _ _ _<|dC (a2 = (f.getD (Int.toNat k) (0 : Int))) (fun ar=>?_) fun ar=>?_
 refine yK ar H fun H=>wt (bY ar)<|ae<|mv z<|mv z<|mv z<|iK H fun⟨bU, fp⟩H=>have bV:=jK i fp;?_
 obtain ⟨h4, cV⟩ := Mw.ad (Mw.new (α := Int) b a 1) bU bV
 refine bP dI z cV z bU bV<|jI (kd := (Kd.int .i64)) cU 0 (v := int .i64 a2) (news := [int .i64 a2]) (0 : Int) a2 bv z (Mw.new (α := Int) b a 1) (cB an) cV bU bV (add_zero' _) z z z z z (Nat.le_of_ble_eq_true z) gR (fun _ ho => dm ho z z) fun h5 fq=>nl<|have fr:=Hp.rwUp fq 0 z bO;?_
 cases H
 exact ⟨z, x, _, z, gR, ⟨z, z, z, z, z, z, z, z, tv⟩, fr, (cB (cB an)), gR, tv⟩
 refine nK ar H fun H=>wf (bN ar)<|ws<|have fs:=Hp.rwUp cU 0 z bO;?_
 cases H
 exact ⟨z, x, _, z, gR, ⟨z, z, z, z, z, z, z, z, tv⟩, fs, (cB an), gR, tv⟩
 rintro e r ds h6 ⟨rfl, bQ, ap, rfl, ft, c, fu, fv, fw, _⟩
 rw [c.eq]; clear c
 exact fl _ _ _<|ae<|mv z<|ba z z<|aj z<|nl<|have fx:=Hp.rwUp fu 0 z fw;ih _ _ _ H ap _ _ _ (gT cP ft) ⟨z, z, z, z, z, z, z, z, tv⟩ fx fv gR z
 refine nK ao H fun H=>wf (bN ao)<|wx<|have fz:=Hp.rwUp cQ 0 z bO;?_
 cases H
 exact ⟨z, x, _, z, cP, ⟨z, z, z, z, tv⟩, fz, an, gR, tv⟩
 rintro e r ds h8 ⟨rfl, bJ, am, rfl, fB, c, fC, fD, fE, _⟩
 rw [c.eq]; clear c
 refine have fF:=Hp.rwUp fC 0 z fE;?_
 cases H
 exact ⟨z, am, _, z, fB, ⟨z, z, z, z, tv⟩, fF, fD, gR, tv⟩
 refine nK al H fun H=>wf (bN al)<|ws<|cN _ _ _<|sr fun h9 fG=>mv z<|aj z<|nl<|fG _ _ _<|wb<|bK H fun bW hC H=>?_
 refine aq (Q := fun e r ds w => e = .exit 7 ∧ ∃ (bX : Gh) (au : Gh), ds = [] ∧ g ≤ au ∧ Has [(0, string a1), (1, int .i64 a2), (5, slice (some ⟨b, 0, none⟩) a a), (8, int .i64 d)] r ∧ Hp au (gn bX (Kd.int .i64) (some ⟨b, 0, none⟩) [] bW [] a 3 :: L) w ∧ bW.length = a ∧ bX ≤ au ∧ True) ?_ ?_
 refine have fH:=Hp.rwUp bF 0 z D;aB fun I h=>?_
 refine cg.partial_correctness a1 a2 k (fun bZ aP o => ∀ (b0 : Gh) (y : Gh) (r : Rg) (w : World), g ≤ y → Has [(0, string a1), (1, int .i64 a2), (5, slice (some ⟨b, 0, none⟩) a a), (8, int .i64 d), (9, int .i64 a2), (10, int .i64 k), (11, int .i64 a2), (12, int .i64 aP)] r → Hp y (gn b0 (Kd.int .i64) (some ⟨b, 0, none⟩) [] bZ [] a 3 :: L) w → bZ.length = a → b0 ≤ y → o = bW → I r [] w) ?_ f d _ hC g _ _ _ gR ⟨rfl, rfl, rfl, rfl, rfl, rfl, rfl, rfl, tv⟩ fH s gR rfl
 intro _ ih bZ aP o H b0 y r ia cW c cY av b1 ho
 rw [ho] at H; clear ho
 rw [c.eq]; clear c
 refine h _ _ _<|sQ fun ib fI=>sr fun ic fJ=>mv z<|mv z<|aN z z<|nl<|fJ _ _ _<|dC (aP < k) (fun aw=>?_) fun aw=>?_
 refine yK aw H fun H=>wt (bY aw)<|ws<|fI _ _ _<|sQ fun id fK=>bK H fun cZ hC H=>?_
 refine aq (Q := fun e r ds w => e = .normal ∧ ∃ (b2 : Gh) (ay : Gh), ds = [] ∧ y ≤ ay ∧ Has [(0, string a1), (1, int .i64 a2), (5, slice (some ⟨b, 0, none⟩) a a), (8, int .i64 d), (9, int .i64 a2), (10, int .i64 k), (11, int .i64 a2), (12, int .i64 aP)] r ∧ Hp ay (gn b2 (Kd.int .i64) (some ⟨b, 0, none⟩) [] cZ [] a 3 :: L) w ∧ cZ.length = a ∧ b2 ≤ ay ∧ True) ?_ ?_
 refine have H:=hC;wb<|sr fun ie fL=>mv z<|mv z<|mv z<|iK H fun⟨b3, fM⟩H=>have b4:=jK i fM;?_
 obtain ⟨ig, c0⟩ := Mw.ad (Mw.new (α := Int) b a 1) b3 b4
 refine bP dI z c0 z b3 b4<|jI (kd := (Kd.int .i64)) cY 0 (v := int .i64 a2) (news := [int .i64 a2]) (0 : Int) a2 bv z (Mw.new (α := Int) b a 1) av c0 b3 b4 (add_zero' _) z z z z z (Nat.le_of_ble_eq_true z) gR (fun _ ho => dm ho z z) fun ii c1=>nl<|fL _ _ _<|sr fun ij fN=>mv z<|mv z<|bA z z<|nl<|fN _ _ _<|dC (a2 = a2) (fun az=>?_) fun az=>?_
 refine yK az H fun H=>wt (bY az)<|ae<|mv z<|mv z<|mv z<|iK H fun⟨b5, fO⟩H=>have b6:=jK i fO;?_
 obtain ⟨ik, c2⟩ := Mw.ad (Mw.new (α := Int) b a 1) b5 b6
 refine bP dI z c2 z b5 b6<|jI (kd := (Kd.int .i64)) c1 0 (v := int .i64 a2) (news := [int .i64 a2]) (0 : Int) a2 bv z (Mw.new (α := Int) b a 1) (cB av) c2 b5 b6 (add_zero' _) z z z z z (Nat.le_of_ble_eq_true z) gR (fun _ ho => dm ho z z) fun il fP=>nl<|have fQ:=Hp.rwUp fP 0 z b1;?_
 cases H
 exact ⟨z, y, _, z, gR, ⟨z, z, z, z, z, z, z, z, tv⟩, fQ, (cB (cB av)), gR, tv⟩
 refine nK az H fun H=>wf (bN az)<|ws<|have fR:=Hp.rwUp c1 0 z b1;?_
 cases H
 exact ⟨z, y, _, z, gR, ⟨z, z, z, z, z, z, z, z, tv⟩, fR, (cB av), gR, tv⟩
 rintro e r ds im ⟨rfl, b2, ay, rfl, fS, c, fT, fU, fV, _⟩
 rw [c.eq]; clear c
 exact fK _ _ _<|ae<|mv z<|ba z z<|aj z<|nl<|have fW:=Hp.rwUp fT 0 z fV;ih _ _ _ H ay _ _ _ (gT cW fS) ⟨z, z, z, z, z, z, z, z, tv⟩ fW fU gR z
 refine nK aw H fun H=>wf (bN aw)<|wx<|have fX:=Hp.rwUp cY 0 z b1;?_
 cases H
 exact ⟨z, y, _, z, cW, ⟨z, z, z, z, tv⟩, fX, av, gR, tv⟩
 rintro e r ds io ⟨rfl, bX, au, rfl, fY, c, fZ, f1, f2, _⟩
 rw [c.eq]; clear c
 refine have f3:=Hp.rwUp fZ 0 z f2;?_
 cases H
 exact ⟨z, au, _, z, fY, ⟨z, z, z, z, tv⟩, f3, f1, gR, tv⟩
 rintro e r ds ip ⟨rfl, a8, P, rfl, f4, c, f5, f6, f7, _⟩
 rw [c.eq]; clear c
 exact dQ _ _ _<|ae<|mv z<|ba z z<|aj z<|nl<|have f8:=Hp.rwUp f5 0 z f7;ih _ _ _ H P _ _ _ (gT ch f4) ⟨z, z, z, z, tv⟩ f8 f6 gR z
 refine nK O H fun H=>wf (bN O)<|wx<|have f9:=Hp.rwUp cl 0 z D;?_
 cases H
 exact ⟨z, g, _, z, ch, ⟨z, tv⟩, f9, s, gR, tv⟩
 rintro e r ds iq ⟨rfl, a7, aG, rfl, ga, c, gb, gd, ge, _⟩
 rw [c.eq]; clear c
 refine dL _ _ _<|sr fun ir gf=>mv z<|aj z<|nl<|gf _ _ _<|wr<|have gg:=Hp.rwUp gb 0 z ge;?_
 cases H
 exact ⟨.inr z, z, _, ⟨_, _, z, z, z⟩, (some ⟨b, 0, none⟩), a, a, _, (gT dG ga), gg, gd, (Mw.new (α := Int) b a 1), z⟩
end Go.Proofs.YtaemgcpcfnbmdaaGreatDoor.LG
