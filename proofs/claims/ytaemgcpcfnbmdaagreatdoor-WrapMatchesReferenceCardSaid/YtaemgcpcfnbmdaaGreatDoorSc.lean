/-
  The walks: each function computes its plain function: printed by a program out of the translation.
-/
import Derived.Test.YtaemgcpcfnbmdaaGreatDoorSb
set_option linter.unusedVariables false
set_option linter.unusedSimpArgs false
set_option maxRecDepth 100000
namespace Go.Proofs.YtaemgcpcfnbmdaaGreatDoor.LG
open Go Go.LG Go.RowKit Go.Value
set_option maxHeartbeats 1000000
open Go.Lib Go.Shelf Go.Proofs
theorem s4 {a1 a2 s M G L w} (H : i1 a1 a2 = some (s, M)) (hI : Hp G L w) :
    Calls Tryz.prog 81 [string a1, int .i64 a2].toArray w fun e w' => ∃ (l : Option Addr) (t : Nat) (m : Nat) (G' : Gh), G ≤ G' ∧ Hp G' (gn G' (Kd.int .i64) l [] s [] m 3 :: L) w' ∧ s.length = t ∧ Mw l l ([] : List Int).length t m m 1 ∧ e = .returned (tuple [slice l t m, int .i64 M].toArray) := by
 refine ac (N := 37) Tryz.func81 z z (Nat.le_of_ble_eq_true z)<|?_
 unfold i1 at H
 refine sr fun K3 Y=>aj z<|aj z<|nl<|Y _ _ _<|sr fun K5 Z=>mv z<|mv z<|iJ H fun p aa ab H=>fU (vs := [string a1, int .i64 a2]) E3 z z (sJ ab hI)<|?_
 rintro _ a4 ⟨g, u, h, i, O, P, R, af, rfl⟩
 refine ⟨_, rfl, ?_⟩
 refine mv z<|cK z z<|cK z z<|aj z<|aj z<|nl<|Z _ _ _<|sQ fun a5 ag=>sr fun a6 ah=>mv z<|dW z z<|nl<|ah _ _ _<|dC (¬ aa = 0) (fun j=>?_) fun j=>?_
 refine yK j H fun H=>wt (bY j)<|sr fun a7 ai=>mv z<|aj z<|aj z<|nl<|ai _ _ _<|wr<|have ak:=Hp.emp P;have al:=Hp.pick 2 [0] ak z;?_
 cases H
 exact ⟨.inr z, z, _, ⟨_, _, z, z, ⟨_, _, z, z, z⟩⟩, none, 0, 0, _, O, al, z, ⟨.inl z, Nat.le_refl _⟩, z⟩
 refine nK j H fun H=>wf (bN j)<|ws<|ag _ _ _<|sr fun a8 am=>mv z<|cX fA z<|iK H fun⟨an, ao, ap⟩H=>yr (kd := (Kd.int .i64)) (z := (0 : Int)) P dI vI z z z z an ao ap fun b a a9 x ar=>aj z<|nl<|am _ _ _<|sQ fun bb au=>sr fun bc av=>?_
 refine mv z<|pO lg z x<|mv z<|nl<|av _ _ _<|wb<|bK H fun y hC H=>?_
 refine aq (Q := fun e r ds w => e = .exit 0 ∧ ∃ (A : Gh) (q : Gh), ds = [] ∧ i ≤ q ∧ Has [(6, slice g u h), (8, slice (some ⟨b, 0, none⟩) a a)] r ∧ Hp q (gn A (Kd.int .i64) (some ⟨b, 0, none⟩) [] y [] a 3 :: gn i (Kd.int .i64) g [] p [] h 3 :: L) w ∧ y.length = a ∧ A ≤ q ∧ True) ?_ ?_
 refine aB fun I X=>?_
 refine dT.partial_correctness a1 (fun B c o => ∀ (C : Gh) (d : Gh) (r : Rg) (w : World), i ≤ d → Has [(6, slice g u h), (8, slice (some ⟨b, 0, none⟩) a a), (23, int .i64 ((List.replicate (Int.toNat (a1.size : Int)) (0 : Int)).length : Int)), (24, int .i64 c)] r → Hp d (gn C (Kd.int .i64) (some ⟨b, 0, none⟩) [] B [] a 3 :: gn i (Kd.int .i64) g [] p [] h 3 :: L) w → B.length = a → C ≤ d → o = y → I r [] w) ?_ (List.replicate (Int.toNat (a1.size : Int)) (0 : Int)) 0 _ hC i _ _ _ gR ⟨rfl, rfl, rfl, rfl, tv⟩ ar x gR rfl
 intro _ ih B c o H C d r bd S f T D U ho
 rw [ho] at H; clear ho
 rw [f.eq]; clear f
 refine X _ _ _<|sr fun be aw=>aN z z<|nl<|aw _ _ _<|sQ fun bf ax=>dC (c < ((List.replicate (Int.toNat (a1.size : Int)) (0 : Int)).length : Int)) (fun k=>?_) fun k=>?_
 refine yK k H fun H=>wt (bY k)<|ws<|ax _ _ _<|sQ fun bg ay=>wb<|sr fun bh az=>mv z<|aj z<|nl<|az _ _ _<|ae<|mv z<|mv z<|?_
 refine mv z<|iK H fun⟨E, aA⟩H=>have F:=jK x aA;?_
 obtain ⟨bi, V⟩ := Mw.ad (Mw.new (α := Int) b a 1) E F
 exact bP dI z V z E F<|jI (kd := (Kd.int .i64)) T 0 (v := int .i64 c) (news := [int .i64 c]) (0 : Int) c bv z (Mw.new (α := Int) b a 1) D V E F (add_zero' _) z z z z z (Nat.le_of_ble_eq_true z) gR (fun _ ho => dm ho z z) fun bj aC=>nl<|ay _ _ _<|ae<|ba z z<|mv z<|nl<|have aD:=Hp.rwUp aC 0 z U;ih _ _ _ H d _ _ _ S ⟨z, z, z, z, tv⟩ aD (cB D) gR z
 refine nK k H fun H=>wf (bN k)<|wx<|have aE:=Hp.rwUp T 0 z U;?_
 cases H
 exact ⟨z, d, _, z, S, ⟨z, z, tv⟩, aE, D, gR, tv⟩
 rintro e r ds bk ⟨rfl, A, q, rfl, W, f, aF, aG, aH, _⟩
 rw [f.eq]; clear f
 refine au _ _ _<|sr fun bl aI=>mv z<|mv z<|?_
 refine mm aF (vs := [(0, int .i64 2), (1, int .i64 1)]) (cs := [int .i64 2, int .i64 1]) dI vI rfl (by decide) rfl rfl (fun aJ bm aK => ?_)
 obtain ⟨bn, J, aL, aM⟩ := Hp.publish (xs := ([2, 1] : List Int)) (n := 2) (Kd.int .i64) aK ⟨[int .i64 2], _, rfl, rfl, ⟨[int .i64 1], _, rfl, rfl, rfl⟩⟩ rfl
 obtain ⟨bo, K, aO, aP, bp, aQ⟩ := Hp.rwFreeze aL 2 rfl af R (gT W J)
 have aR : p.length = u := R
 subst aR
 refine have aS:=Hp.rwUp aO 1 z (gT aH (gT J K));have aT:=Hp.pick 3 [1, 0, 2] aS z;bK H fun bq aU H=>fU (vs := [slice (some ⟨b, 0, none⟩) a a, slice g p.length h, slice (some ⟨aJ, 0, none⟩) ([2, 1] : List Int).length 2]) Ea z z (rM (a17 := ([2, 1] : List Int)) aU aT aG (Mw.new (α := Int) b a 1) aQ aP (show ([2, 1] : List Int).length ≤ 2 from Nat.le_of_ble_eq_true z) (Dat.mono K aM))<|?_
 rintro _ br ⟨bs, aV, aW, aX, rfl⟩
 refine ⟨_, rfl, ?_⟩
 refine nl<|aI _ _ _<|sr fun bt aY=>mv z<|aj z<|aj z<|nl<|aY _ _ _<|wr<|have aZ:=Hp.pick 3 [0] aW z;?_
 cases H
 exact ⟨.inr z, z, _, ⟨_, _, z, z, ⟨_, _, z, z, z⟩⟩, (some ⟨b, 0, none⟩), a, a, _, (gT (gT (gT (gT O W) J) K) aV), aZ, aX, (Mw.new (α := Int) b a 1), z⟩
theorem sq {a1 a2 C D G L w} (H : iy a1 a2 = some (C, D)) (hI : Hp G L w) :
    Calls Tryz.prog 42 [string a1, int .i64 a2].toArray w fun e w' => Hp G L w' ∧ e = .returned (tuple [string C, int .i64 D].toArray) := by
 refine ac (N := 37) Tryz.func42 z z (Nat.le_of_ble_eq_true z)<|?_
 unfold iy at H
 refine sr fun K3 U=>aj z<|aj z<|nl<|U _ _ _<|sr fun K5 V=>mv z<|mv z<|iJ H fun b E W H=>fU (vs := [string a1, int .i64 a2]) bo81 z z (s4 W hI)<|?_
 rintro _ aL ⟨m, X, n, h, Y, Z, j, F, rfl⟩
 refine ⟨_, rfl, ?_⟩
 refine mv z<|cK z z<|cK z z<|aj z<|aj z<|nl<|V _ _ _<|sr fun aM aa=>mv z<|pO lg z j<|iK H fun⟨ab, af, ag⟩H=>yr (kd := (Kd.int .u8)) (z := (0 : Int)) Z jM Ad z z z z ab af ag fun c a aO J ah=>aj z<|nl<|?_
 refine aa _ _ _<|sQ fun aP ai=>sr fun aQ ak=>mv z<|pO lg z j<|mv z<|nl<|ak _ _ _<|wb<|bK H fun k hC H=>?_
 refine aq (Q := fun e r ds w => e = .exit 0 ∧ ∃ (p : Gh) (l : Gh), ds = [] ∧ h ≤ l ∧ Has [(7, int .i64 E), (8, slice (some ⟨c, 0, none⟩) a a)] r ∧ Hp l (gn p (Kd.int .u8) (some ⟨c, 0, none⟩) [] k [] a 5 :: gn h (Kd.int .i64) m [] b [] n 3 :: L) w ∧ k.length = a ∧ p ≤ l ∧ True) ?_ ?_
 refine aB fun I T=>?_
 refine dD.partial_correctness a1 b (fun q d o => ∀ (s : Gh) (f : Gh) (r : Rg) (w : World), h ≤ f → Has [(0, string a1), (7, int .i64 E), (8, slice (some ⟨c, 0, none⟩) a a), (20, slice m X n), (21, int .i64 (b.length : Int)), (22, int .i64 d)] r → Hp f (gn s (Kd.int .u8) (some ⟨c, 0, none⟩) [] q [] a 5 :: gn h (Kd.int .i64) m [] b [] n 3 :: L) w → q.length = a → s ≤ f → o = k → I r [] w) ?_ (List.replicate (Int.toNat (b.length : Int)) (0 : Int)) 0 _ hC h _ _ _ gR ⟨rfl, rfl, rfl, rfl, rfl, rfl, tv⟩ ah J gR rfl
 intro _ ih q d o H s f r aR K g t u M ho
 rw [ho] at H; clear ho
 rw [g.eq]; clear g
 refine T _ _ _<|sr fun aS al=>aN z z<|nl<|al _ _ _<|sQ fun aT am=>dC (d < (b.length : Int)) (fun i=>?_) fun i=>?_
 refine yK i H fun H=>wt (bY i)<|ws<|am _ _ _<|sQ fun aU an=>wb<|sr fun aV ao=>mv z<|iK H fun⟨x, ap⟩H=>have y:=jK j ap;?_
 obtain ⟨aW, O⟩ := Mw.ad F x y
 refine bP dI z O z x y<|?_
 obtain ⟨_, rfl, _, ar⟩ := Hp.rwGet t 1 rfl F j O (0 : Int) x y
 refine jH (v := int .i64 (b.getD (Int.toNat d) (0 : Int))) bv z (cell0 (ar 0 _ z))<|aj z<|aj z<|nl<|ao _ _ _<|ae<|mv z<|mv z<|mv z<|mv z<|iK H fun⟨au, av⟩H=>gc fA z z au av z<|iK H fun⟨A, aw⟩H=>have B:=jK J aw;?_
 obtain ⟨aX, P⟩ := Mw.ad (Mw.new (α := Int) c a 1) A B
 exact bP jM z P z A B<|jI (kd := (Kd.int .u8)) t 0 (v := int .u8 (bt a1 (b.getD (Int.toNat d) (0 : Int)))) (news := [int .u8 (bt a1 (b.getD (Int.toNat d) (0 : Int)))]) (0 : Int) (bt a1 (b.getD (Int.toNat d) (0 : Int))) p6 z (Mw.new (α := Int) c a 1) u P A B (add_zero' _) z z z z z (Nat.le_of_ble_eq_true z) gR (fun _ ho => dm ho z z) fun aY ax=>nl<|an _ _ _<|ae<|ba z z<|mv z<|nl<|have ay:=Hp.rwUp ax 0 z M;ih _ _ _ H f _ _ _ K ⟨z, z, z, z, z, z, tv⟩ ay (cB u) gR z
 refine nK i H fun H=>wf (bN i)<|wx<|have az:=Hp.rwUp t 0 z M;?_
 cases H
 exact ⟨z, f, _, z, K, ⟨z, z, tv⟩, az, u, gR, tv⟩
 rintro e r ds aZ ⟨rfl, p, l, rfl, aA, g, aC, R, aD, _⟩
 rw [g.eq]; clear g
 refine ai _ _ _<|sr fun a0 aE=>mv z<|?_
 obtain ⟨a3, aF, S, aG, a4, a5⟩ := Hp.rwFreeze aC 0 rfl (Mw.new (α := Int) c a 1) R aD
 have aH : k.length = a := R
 subst aH
 refine wa S jM Az fA z z aG<|mv z<|aj z<|aj z<|nl<|aE _ _ _<|wr<|have aI:=Hp.pick 2 [] S z;?_
 cases H
 exact rt ⟨_, _, z, z, ⟨_, _, z, z, z⟩⟩ (Hp.low (gT (gT Y aA) aF) aI)
theorem rZ {a1 a10 q f g a b M O P Q R S T G L w} (H : dH a1 a10 q f g a b = some (R, S, T)) (hI : Hp G L w) (U : a1.Glyphs.length ≤ O) (V : Dat au G M a1.Glyphs) (W : a1.Kerns.length ≤ Q) (X : Dat ay G P a1.Kerns) (ai : Gl G) :
    Calls Tryz.prog 17 [agg [slice M a1.Glyphs.length O, slice P a1.Kerns.length Q].toArray, string a10, agg [int .i64 q.From, int .i64 q.Until, int .i64 q.Width, bool q.Hyphen].toArray, int .i64 f, int .i64 g, int .i64 a, int .i64 b].toArray w fun e w' => Hp G L w' ∧ e = .returned (tuple [string R, int .i64 S, int .i64 T].toArray) := by
 refine ac (N := 112) Tryz.func17 z z (Nat.le_of_ble_eq_true z)<|?_
 unfold dH at H
 refine sr fun bb ak=>io hI z z fun k bc al=>io al z z fun l bd am=>aj z<|aj z<|aj z<|nl<|ak _ _ _<|sr fun bf an=>mv z<|bK H fun ao ap H=>cv wA (cE ap am) z z fun bg E=>mv z<|bK H fun Y hC H=>?_
 refine js 3 E [(1, string a10), (3, int .i64 f), (4, int .i64 g), (5, int .i64 a), (6, int .i64 b), (7, pointer (some ⟨k, 0, none⟩)), (9, pointer (some ⟨l, 0, none⟩)), (29, bool Y)] ?_ fun _ bh F=>?_
 refine have H:=hC;dC (ao = true) (fun n=>?_) fun n=>?_
 refine yK n H fun H=>mv (hw:=gY z z z (vY n)) z<|bK H fun bi aq H=>cv (hw:=gY z z z (vY n)) wA (cE aq E) z z fun bj ar=>bR (vY n) z<|nl<|?_
 cases H
 exact je ⟨z, z, z, z, z, z, z, z, tv⟩ ar
 refine nK n H fun H=>Sk 2 z z (vN n) z<|b7 (vN n) z<|nl<|?_
 cases H
 exact je ⟨z, z, z, z, z, z, z, z, tv⟩ E
 refine mv z<|bK H fun Z hC H=>js 3 F [(1, string a10), (3, int .i64 f), (4, int .i64 g), (5, int .i64 a), (6, int .i64 b), (7, pointer (some ⟨k, 0, none⟩)), (9, pointer (some ⟨l, 0, none⟩)), (33, bool Z)] ?_ fun _ bk I=>?_
 refine have H:=hC;dC (Y = true) (fun o=>?_) fun o=>?_
 refine yK o H fun H=>mv (hw:=gY z z z (vY o)) z<|bK H fun bl av H=>cv (hw:=gY z z z (vY o)) wA (cE av F) z z fun bm aw=>bR (vY o) z<|nl<|?_
 cases H
 exact je ⟨z, z, z, z, z, z, z, z, tv⟩ aw
 refine nK o H fun H=>Sk 2 z z (vN o) z<|b7 (vN o) z<|nl<|?_
 cases H
 exact je ⟨z, z, z, z, z, z, z, z, tv⟩ F
 refine mv z<|bK H fun aa hC H=>js 3 I [(1, string a10), (3, int .i64 f), (4, int .i64 g), (5, int .i64 a), (6, int .i64 b), (7, pointer (some ⟨k, 0, none⟩)), (9, pointer (some ⟨l, 0, none⟩)), (37, bool aa)] ?_ fun _ bn A=>?_
 refine have H:=hC;dC (Z = true) (fun p=>?_) fun p=>?_
 refine yK p H fun H=>mv (hw:=gY z z z (vY p)) z<|bK H fun bo ax H=>cv (hw:=gY z z z (vY p)) wA (cE ax I) z z fun bp az=>bR (vY p) z<|nl<|?_
 cases H
 exact je ⟨z, z, z, z, z, z, z, z, tv⟩ az
 refine nK p H fun H=>Sk 2 z z (vN p) z<|b7 (vN p) z<|nl<|?_
 cases H
 exact je ⟨z, z, z, z, z, z, z, z, tv⟩ I
 refine aj z<|nl<|an _ _ _<|sQ fun bq aA=>sr fun br aB=>mv z<|be z<|mv z<|bK H fun ab hC H=>js 4 A [(1, string a10), (3, int .i64 f), (4, int .i64 g), (5, int .i64 a), (6, int .i64 b), (7, pointer (some ⟨k, 0, none⟩)), (9, pointer (some ⟨l, 0, none⟩)), (44, bool ab)] ?_ fun _ bs J=>?_
 refine have H:=hC;dC ((!aa) = true) (fun h=>?_) fun h=>?_
 refine yK h H fun H=>Sk 3 z z (vY h) z<|bR (vY h) z<|nl<|?_
 cases H
 exact je ⟨z, z, z, z, z, z, z, z, tv⟩ A
 refine nK h H fun H=>d9 (hw:=gY z z z (vN h)) A 1 fw z z z z<|bK H fun bt aC H=>cv (hw:=gY z z z (vN h)) Dy (mL aC A U V W X) z z fun bu aD=>be (hw:=gY z z z (vN h)) z<|b7 (vN h) z<|nl<|?_
 cases H
 exact je ⟨z, z, z, z, z, z, z, z, tv⟩ aD
 refine mv z<|bK H fun ad hC H=>js 4 J [(1, string a10), (3, int .i64 f), (4, int .i64 g), (5, int .i64 a), (6, int .i64 b), (7, pointer (some ⟨k, 0, none⟩)), (9, pointer (some ⟨l, 0, none⟩)), (49, bool ad)] ?_ fun _ bw B=>?_
 refine have H:=hC;dC (ab = true) (fun i=>?_) fun i=>?_
 refine yK i H fun H=>Sk 3 z z (vY i) z<|bR (vY i) z<|nl<|?_
 cases H
 exact je ⟨z, z, z, z, z, z, z, z, tv⟩ J
 refine nK i H fun H=>mv (hw:=gY z z z (vN i)) z<|bK H fun bx aE H=>cv (hw:=gY z z z (vN i)) zP (ij aE J) z z fun bz aF=>be (hw:=gY z z z (vN i)) z<|b7 (vN i) z<|nl<|?_
 cases H
 exact je ⟨z, z, z, z, z, z, z, z, tv⟩ aF
 refine mv z<|bK H fun ae hC H=>js 4 B [(1, string a10), (3, int .i64 f), (4, int .i64 g), (5, int .i64 a), (6, int .i64 b), (7, pointer (some ⟨k, 0, none⟩)), (9, pointer (some ⟨l, 0, none⟩)), (54, bool ae)] ?_ fun _ bB r=>?_
 refine have H:=hC;dC (ad = true) (fun j=>?_) fun j=>?_
 refine yK j H fun H=>Sk 3 z z (vY j) z<|bR (vY j) z<|nl<|?_
 cases H
 exact je ⟨z, z, z, z, z, z, z, z, tv⟩ B
 refine nK j H fun H=>fa (hw:=gY z z z (vN j)) sG z<|ld (hw:=gY z z z (vN j)) B 0 bv z z z<|aN (hw:=gY z z z (vN j)) z z<|b7 (vN j) z<|nl<|?_
 cases H
 exact je ⟨z, z, z, z, z, z, z, z, tv⟩ B
 refine mv z<|bK H fun af hC H=>js 6 r [(1, string a10), (3, int .i64 f), (4, int .i64 g), (5, int .i64 a), (6, int .i64 b), (7, pointer (some ⟨k, 0, none⟩)), (9, pointer (some ⟨l, 0, none⟩)), (61, bool af)] ?_ fun _ bC C=>?_
 refine have H:=hC;dC (ae = true) (fun c=>?_) fun c=>?_
 refine yK c H fun H=>Sk 5 z z (vY c) z<|bR (vY c) z<|nl<|?_
 cases H
 exact je ⟨z, z, z, z, z, z, z, z, tv⟩ r
 refine nK c H fun H=>fa (hw:=gY z z z (vN c)) sG z<|ld (hw:=gY z z z (vN c)) r 0 bv z z z<|fa (hw:=gY z z z (vN c)) nG z<|ld (hw:=gY z z z (vN c)) r 0 bv z z z<|gM (hw:=gY z z z (vN c)) z z<|b7 (vN c) z<|nl<|?_
 cases H
 exact je ⟨z, z, z, z, z, z, z, z, tv⟩ r
 refine mv z<|bK H fun ag hC H=>js 6 C [(1, string a10), (3, int .i64 f), (4, int .i64 g), (5, int .i64 a), (6, int .i64 b), (7, pointer (some ⟨k, 0, none⟩)), (9, pointer (some ⟨l, 0, none⟩)), (68, bool ag)] ?_ fun _ bD s=>?_
 refine have H:=hC;dC (af = true) (fun d=>?_) fun d=>?_
 refine yK d H fun H=>Sk 5 z z (vY d) z<|bR (vY d) z<|nl<|?_
 cases H
 exact je ⟨z, z, z, z, z, z, z, z, tv⟩ C
 refine nK d H fun H=>fa (hw:=gY z z z (vN d)) nG z<|ld (hw:=gY z z z (vN d)) C 0 bv z z z<|mv (hw:=gY z z z (vN d)) z<|cX (hw:=gY z z z (vN d)) fA z<|cc (hw:=gY z z z (vN d)) z z<|b7 (vN d) z<|nl<|?_
 cases H
 exact je ⟨z, z, z, z, z, z, z, z, tv⟩ C
 refine nl<|aB _ _ _<|dC (ag = true) (fun t=>?_) fun t=>?_
 refine yK t H fun H=>wt (vY t)<|sr fun bE aG=>aj z<|aj z<|aj z<|nl<|aG _ _ _<|wr<|have aH:=Hp.pick 2 [] s z;?_
 cases H
 exact rt ⟨_, _, z, z, ⟨_, _, z, z, ⟨_, _, z, z, z⟩⟩⟩ aH
 refine nK t H fun H=>wf (vN t)<|ws<|aA _ _ _<|sr fun bF aI=>mv z<|fa sG z<|ld s 0 bv z z z<|fa nG z<|ld s 0 bv z z z<|fa Al z<|ld s 0 zU z z z<|bK H fun bG aJ H=>cv E1 (oJ aJ s (ai.mono gR)) z z fun bH ah=>?_
 refine aj z<|nl<|aI _ _ _<|sr fun bI aK=>d9 ah 1 fw z z z z<|mv z<|mv z<|iJ H fun aL aM aO H=>cv E0 (pq aO ah U V W X) z z fun bJ D=>mv z<|cK z z<|cK z z<|aj z<|aj z<|?_
 refine nl<|aK _ _ _<|sQ fun bL aP=>sr fun bM aQ=>mv z<|dW z z<|nl<|aQ _ _ _<|dC (¬ aM = 0) (fun u=>?_) fun u=>?_
 refine yK u H fun H=>wt (bY u)<|sr fun bO aR=>mv z<|aj z<|aj z<|aj z<|nl<|aR _ _ _<|wr<|have aS:=Hp.pick 2 [] D z;?_
 cases H
 exact rt ⟨_, _, z, z, ⟨_, _, z, z, ⟨_, _, z, z, z⟩⟩⟩ aS
 refine nK u H fun H=>wf (bN u)<|ws<|aP _ _ _<|sQ fun bP aT=>sr fun bQ aU=>mv z<|fa ng z<|ld D 0 bv z z z<|dW z z<|nl<|aU _ _ _<|dC (¬ aL = q.Width) (fun v=>?_) fun v=>?_
 refine yK v H fun H=>wt (bY v)<|sr fun bS aV=>aj z<|aj z<|aj z<|nl<|aV _ _ _<|wr<|have aW:=Hp.pick 2 [] D z;?_
 cases H
 exact rt ⟨_, _, z, z, ⟨_, _, z, z, ⟨_, _, z, z, z⟩⟩⟩ aW
 refine nK v H fun H=>wf (bN v)<|ws<|aT _ _ _<|sr fun bT aX=>mv z<|mv z<|iJ H fun bU bV aY H=>cv bo42 (sq aY D) z z fun bW K=>mv z<|cK z z<|cK z z<|aj z<|aj z<|?_
 refine nl<|aX _ _ _<|sr fun bX aZ=>mv z<|mv z<|dl z z<|aj z<|nl<|aZ _ _ _<|sQ fun bZ a0=>sr fun b0 a2=>mv z<|nl<|a2 _ _ _<|?_
 refine wb<|sr fun b1 a3=>mv z<|bA z z<|aj z<|nl<|a3 _ _ _<|dC (a = b) (fun x=>?_) fun x=>?_
 refine yK x H fun H=>wt (bY x)<|sr fun b2 a4=>mv z<|aj z<|aj z<|aj z<|nl<|a4 _ _ _<|wr<|have a5:=Hp.pick 2 [] K z;?_
 cases H
 exact rt ⟨_, _, z, z, ⟨_, _, z, z, ⟨_, _, z, z, z⟩⟩⟩ a5
 refine nK x H fun H=>wf (bN x)<|sr fun b3 a6=>bA z z<|aj z<|nl<|a6 _ _ _<|dC (a = 2) (fun y=>?_) fun y=>?_
 refine yK y H fun H=>wt (bY y)<|sr fun b4 a7=>mv z<|mv z<|Bj (m := 1) z z z<|aj z<|aj z<|aj z<|nl<|a7 _ _ _<|wr<|have a8:=Hp.pick 2 [] K z;?_
 cases H
 exact rt ⟨_, _, z, z, ⟨_, _, z, z, ⟨_, _, z, z, z⟩⟩⟩ a8
 refine nK y H fun H=>wf (bN y)<|ws<|a0 _ _ _<|sr fun b5 a9=>mv z<|mv z<|aj z<|aj z<|aj z<|nl<|a9 _ _ _<|wr<|have ba:=Hp.pick 2 [] K z;?_
 cases H
 exact rt ⟨_, _, z, z, ⟨_, _, z, z, ⟨_, _, z, z, z⟩⟩⟩ ba
theorem pP {a1 U aN Z c3 A6 c7 ad af ag ah av a5 a6 G L w} (H : ga a1 U aN = some (av, a5, a6)) (hI : Hp G L w) (aO : a1.f.Glyphs.length ≤ c3) (aP : Dat au G Z a1.f.Glyphs) (aQ : a1.f.Kerns.length ≤ c7) (aR : Dat ay G A6 a1.f.Kerns) (a7 : a1.b.Keep.length ≤ af) (a8 : Dat Kd.str G ad a1.b.Keep) (a9 : a1.l.length ≤ ah) (bb : Dat bm G ag a1.l) (a4 : Gl G) :
    Calls Tryz.prog 52 [agg [slice Z a1.f.Glyphs.length c3, slice A6 a1.f.Kerns.length c7, int .i64 a1.b.Before, int .i64 a1.b.Behind, slice ad a1.b.Keep.length af, string a1.s, int .i64 a1.scale, int .i64 a1.line, int .i64 a1.align, int .i64 a1.dir, int .i64 a1.width, slice ag a1.l.length ah].toArray, int .i64 U, int .i64 aN].toArray w fun e w' => Hp G L w' ∧ e = .returned (tuple [agg [string av.Text, int .i64 av.X, int .i64 av.Y, int .i64 av.W, int .i64 av.H].toArray, int .i64 a5, bool a6].toArray) := by
 refine iH (N := 95) Tryz.func52 z z (Nat.le_of_ble_eq_true z)<|?_
 unfold ga at H
 refine sr fun cL bj=>io hI z z fun I cM bk=>io bk z z fun am cO bl=>aM bl oX fun R cP bn=>aM bn vI fun S cQ bo=>aM bo ze4 fun T cR bc=>nl<|bj _ _ _<|sQ fun cS bp=>sr fun cT br=>d9 bc 4 Bh z z z z<|mv z<|iJ H fun p bs bt H=>fU (vs := [agg [slice Z a1.f.Glyphs.length c3, slice A6 a1.f.Kerns.length c7, int .i64 a1.b.Before, int .i64 a1.b.Behind, slice ad a1.b.Keep.length af, string a1.s, int .i64 a1.scale, int .i64 a1.line, int .i64 a1.align, int .i64 a1.dir, int .i64 a1.width, slice ag a1.l.length ah].toArray, int .i64 aN]) bo86 z z (oB bt bc aO aP aQ aR a7 a8 a9 bb)<|?_
 rintro _ cU ⟨aS, aT, aU, aV, aW, aX, aY, aZ, a0, a2, bu, ak, bw, bz, bA, bB, bC, bD, bE, bF, bG, rfl⟩
 refine ⟨_, rfl, ?_⟩
 refine nl<|br _ _ _<|wb<|?_
 obtain ⟨⟨bd, ⟨aq, aw, az, aA, aB, aC, aD⟩, bH⟩, bI, H⟩ := bS H
 refine mj bw EH z fun fn tmps gl an cV bJ be=>?_
 have bL : Yl Tryz.prog (j5 (fun (u : Bool × Int × ByteArray × Int × Int × Int × Int) (x : Int × Bool) => bq a1 U u.1 u.2.1 u.2.2.1 u.2.2.2.1 u.2.2.2.2.1 u.2.2.2.2.2.1 u.2.2.2.2.2.2 x.1 x.2)) (vi (enc1 (Kd.int .i64)) (enc1 Kd.bool)) _ gl := ni (pp := [22, 23]) (gdd := an) be (fun (u : Bool × Int × ByteArray × Int × Int × Int × Int) (x : Int × Bool) => bq a1 U u.1 u.2.1 u.2.2.1 u.2.2.2.1 u.2.2.2.2.1 u.2.2.2.2.2.1 u.2.2.2.2.2.2 x.1 x.2) [Code.ret] (fun (u : Bool × Int × ByteArray × Int × Int × Int × Int) (G' : Gh) (K : List eP) => ∃ (_ : bu ≤ G'), K = bx T [bool u.1] 4 :: bx S [int .i64 u.2.1] 3 :: bx R [string u.2.2.1, int .i64 u.2.2.2.1, int .i64 u.2.2.2.2.1, int .i64 u.2.2.2.2.2.1, int .i64 u.2.2.2.2.2.2] 50 :: bx am [int .i64 U] 3 :: bx I [slice Z a1.f.Glyphs.length c3, slice A6 a1.f.Kerns.length c7, int .i64 a1.b.Before, int .i64 a1.b.Behind, slice ad a1.b.Keep.length af, string a1.s, int .i64 a1.scale, int .i64 a1.line, int .i64 a1.align, int .i64 a1.dir, int .i64 a1.width, slice ag a1.l.length ah] 97 :: (List.map uO (an :: ([] : List Nat)) ++ L) ∧ True) bJ (fun _ _ _ h => (fun h => rQ (fun h => nt h) (fun h => nt h) h) h) (fun hG' ⟨bM, hK', _⟩ => ⟨gT bM hG', hK', tv⟩) (by
 rintro Rd Bs ⟨aq, aw, az, aA, aB, aC, aD⟩ u' ⟨E, bP⟩ jo' aG K M cW vs ⟨ai, rfl, _⟩ ⟨_, _, rfl, ⟨_, rfl, bQ⟩, ⟨_, rfl, bT⟩⟩ H bU
 cases bQ
 cases bT
 replace H : bq a1 U aq aw az aA aB aC aD E bP = some (u', jo') := H
 unfold bq at H
 refine sr fun cX bV=>aj z<|nl<|bV _ _ _<|ae<|aj z<|nl<|?_
 refine ⟨rfl, rfl, _, _, gR, bU, fun cY aH => ?_⟩
 refine wb<|sr fun cZ bX=>fa yj z<|ld aH 5 Dw z z z<|fa vy z<|ld aH 5 bv z z z<|mv z<|fa tT z<|ld aH 5 bv z z z<|iJ H fun B bZ b0 H=>cv bo18 (si b0 aH a9 (Dat.mono (gT ak ai) bb)) z z fun c0 b1=>mv z<|cK z z<|cK z z<|?_
 refine aM b1 rp fun V c1 b2=>fX b2 0 oF z z z z z z z fun c2 al=>aj z<|nl<|bX _ _ _<|sQ fun c4 b3=>sr fun c5 b4=>mv z<|dW z z<|nl<|b4 _ _ _<|dC (¬ bZ = 0) (fun aE=>?_) fun aE=>?_
 refine yK aE H fun H=>wt (bY aE)<|sr fun c6 b5=>bO (vs := []) (cs := [string (⟨#[]⟩ : ByteArray), int .i64 0, int .i64 0, int .i64 0, int .i64 0]) oX uv z z<|fX al 4 vT z z z z z z z fun c8 b6=>fX b6 3 bv z z z z z z z fun c9 b8=>fX b8 2 zU z z z z z z z fun da b9=>nl<|b5 _ _ _<|wr<|have ca:=Hp.pick 7 [1, 2, 3, 4, 5, 6] b9 z;?_
 cases H
 exact ⟨(.inl ⟨z, z⟩), _, _, gR, ⟨ai, z, tv⟩, ca⟩
 refine nK aE H fun H=>wf (bN aE)<|ws<|b3 _ _ _<|sr fun db cb=>fa kN z<|ld al 0 bv z z z<|fa kn z<|ld al 0 bv z z z<|dl z z<|aj z<|nl<|cb _ _ _<|sr fun dc cd=>?_
 refine fa vM z<|d9 al 6 fw z z z z<|fa yc z<|d9 al 6 jT z z z z<|fa tI z<|ld al 6 qU z z z<|ld al 5 bv z z z<|fa vg z<|ld al 6 bv z z z<|mv z<|iJ H fun q dd ce H=>cv DV (oM ce al aO (Dat.mono (gT ak ai) aP) aQ (Dat.mono (gT ak ai) aR) a7 (Dat.mono (gT ak ai) a8) (a4.mono (gT ak ai))) z z fun de cf=>mv z<|cK z z<|?_
 refine cK z z<|aM cf mO fun J df cg=>fX cg 0 gy z z z z z z z fun dg aI=>aj z<|nl<|cd _ _ _<|sQ fun dh ch=>sr fun di ci=>fa ng z<|ld aI 0 bv z z z<|mv z<|cc z z<|mv z<|bK H fun bf hC H=>?_
 refine js 2 aI [(3, pointer (some ⟨I, 0, none⟩)), (6, pointer (some ⟨R, 0, none⟩)), (7, pointer (some ⟨S, 0, none⟩)), (8, pointer (some ⟨T, 0, none⟩)), (9, int .i64 E), (11, pointer (some ⟨V, 0, none⟩)), (13, int .i64 (ax (B.Hi - B.Lo))), (14, pointer (some ⟨J, 0, none⟩)), (63, bool bf)] ?_ fun _ dj ao=>?_
 refine have H:=hC;dC ((ax (B.Hi - B.Lo)) < q.Width) (fun ar=>?_) fun ar=>?_
 refine yK ar H fun H=>mv (hw:=gY z z z (bY ar)) z<|bR (bY ar) z<|nl<|?_
 cases H
 exact je ⟨z, z, z, z, z, z, z, z, z, tv⟩ aI
 refine nK ar H fun H=>wN (gN z z z (bN ar) z)<|b7 (bN ar) z<|nl<|?_
 cases H
 exact je ⟨z, z, z, z, z, z, z, z, z, tv⟩ aI
 refine nl<|ci _ _ _<|dC (bf = true) (fun aF=>?_) fun aF=>?_
 refine yK aF H fun H=>wt (vY aF)<|wx<|have cj:=Hp.pick 8 [2, 3, 4, 5, 6, 7] ao z;?_
 cases H
 exact ⟨z, _, _, gR, ⟨ai, z, tv⟩, cj⟩
 refine nK aF H fun H=>wf (vN aF)<|ws<|ch _ _ _<|sr fun dk ck=>fa vM z<|d9 ao 7 fw z z z z<|fa tI z<|ld ao 7 qU z z z<|d9 ao 0 gy z z z z<|fa vg z<|ld ao 7 bv z z z<|mv z<|fa xE z<|?_
 refine ld ao 7 bv z z z<|fa x5 z<|ld ao 7 bv z z z<|xr H fun O C dm cl H=>cv bo17 (rZ cl ao aO (Dat.mono (gT ak ai) aP) aQ (Dat.mono (gT ak ai) aR) (a4.mono (gT ak ai))) z z fun dn cm=>mv z<|cK z z<|cK z z<|cK z z<|aj z<|aj z<|aj z<|nl<|ck _ _ _<|?_
 refine sQ fun dp cn=>?_
 refine eC [0, 0, 2, 0, 14, 0, 0, 64, 0, 256, 1023, 0, 2048, 2047, 16383, 32767] (fun D r w => (D 13 = false ∧ ∃ (G' : Gh), aG ≤ G' ∧ ap [(3, pointer (some ⟨I, 0, none⟩)), (6, pointer (some ⟨R, 0, none⟩)), (7, pointer (some ⟨S, 0, none⟩)), (8, pointer (some ⟨T, 0, none⟩)), (9, int .i64 E), (11, pointer (some ⟨V, 0, none⟩)), (14, pointer (some ⟨J, 0, none⟩)), (16, string O), (17, int .i64 C)] [] [(0, 81, string O), (1, 82, pointer (some ⟨V, 0, none⟩)), (2, 83, int .i64 B.Lo), (3, 84, int .i64 C), (4, 85, int .i64 (ax (B.Lo + C))), (5, 86, int .i64 E), (6, 87, pointer (some ⟨J, 2, none⟩)), (7, 88, int .i64 q.Width), (8, 89, pointer (some ⟨I, 7, none⟩)), (9, 90, int .i64 a1.line), (10, 91, agg [string O, int .i64 (ax (B.Lo + C)), int .i64 E, int .i64 q.Width, int .i64 a1.line].toArray), (11, 92, pointer (some ⟨J, 1, none⟩)), (12, 93, int .i64 q.Until)] D r ∧ Hp G' (bx J [int .i64 q.From, int .i64 q.Until, int .i64 q.Width, bool q.Hyphen] 46 :: bx V [int .i64 B.Lo, int .i64 B.Hi] 53 :: Bs :: bx T [bool aq] 4 :: bx S [int .i64 aw] 3 :: bx R [string az, int .i64 aA, int .i64 aB, int .i64 aC, int .i64 aD] 50 :: bx am [int .i64 U] 3 :: bx I [slice Z a1.f.Glyphs.length c3, slice A6 a1.f.Kerns.length c7, int .i64 a1.b.Before, int .i64 a1.b.Behind, slice ad a1.b.Keep.length af, string a1.s, int .i64 a1.scale, int .i64 a1.line, int .i64 a1.align, int .i64 a1.dir, int .i64 a1.width, slice ag a1.l.length ah] 97 :: ((List.map uO (an :: ([] : List Nat)) ++ L) ++ M)) w) ∨ (D 13 = true ∧ D 14 = false ∧ ∃ (G' : Gh), aG ≤ G' ∧ ap [(3, pointer (some ⟨I, 0, none⟩)), (6, pointer (some ⟨R, 0, none⟩)), (7, pointer (some ⟨S, 0, none⟩)), (8, pointer (some ⟨T, 0, none⟩)), (9, int .i64 E), (11, pointer (some ⟨V, 0, none⟩)), (14, pointer (some ⟨J, 0, none⟩)), (16, string O), (17, int .i64 C)] [] [(0, 81, string O), (1, 82, pointer (some ⟨V, 0, none⟩)), (2, 83, int .i64 B.Lo), (3, 84, int .i64 C), (4, 85, int .i64 (ax (B.Lo + C))), (5, 86, int .i64 E), (6, 87, pointer (some ⟨J, 2, none⟩)), (7, 88, int .i64 q.Width), (8, 89, pointer (some ⟨I, 7, none⟩)), (9, 90, int .i64 a1.line), (10, 91, agg [string O, int .i64 (ax (B.Lo + C)), int .i64 E, int .i64 q.Width, int .i64 a1.line].toArray), (11, 92, pointer (some ⟨J, 1, none⟩)), (12, 93, int .i64 q.Until)] D r ∧ Hp G' (bx J [int .i64 q.From, int .i64 q.Until, int .i64 q.Width, bool q.Hyphen] 46 :: bx V [int .i64 B.Lo, int .i64 B.Hi] 53 :: Bs :: bx T [bool aq] 4 :: bx S [int .i64 aw] 3 :: bx R [string O, int .i64 (ax (B.Lo + C)), int .i64 E, int .i64 q.Width, int .i64 a1.line] 50 :: bx am [int .i64 U] 3 :: bx I [slice Z a1.f.Glyphs.length c3, slice A6 a1.f.Kerns.length c7, int .i64 a1.b.Before, int .i64 a1.b.Behind, slice ad a1.b.Keep.length af, string a1.s, int .i64 a1.scale, int .i64 a1.line, int .i64 a1.align, int .i64 a1.dir, int .i64 a1.width, slice ag a1.l.length ah] 97 :: ((List.map uO (an :: ([] : List Nat)) ++ L) ++ M)) w) ∨ (D 14 = true ∧ D 15 = false ∧ ∃ (G' : Gh), aG ≤ G' ∧ ap [(3, pointer (some ⟨I, 0, none⟩)), (6, pointer (some ⟨R, 0, none⟩)), (7, pointer (some ⟨S, 0, none⟩)), (8, pointer (some ⟨T, 0, none⟩)), (9, int .i64 E), (11, pointer (some ⟨V, 0, none⟩)), (14, pointer (some ⟨J, 0, none⟩)), (16, string O), (17, int .i64 C)] [] [(0, 81, string O), (1, 82, pointer (some ⟨V, 0, none⟩)), (2, 83, int .i64 B.Lo), (3, 84, int .i64 C), (4, 85, int .i64 (ax (B.Lo + C))), (5, 86, int .i64 E), (6, 87, pointer (some ⟨J, 2, none⟩)), (7, 88, int .i64 q.Width), (8, 89, pointer (some ⟨I, 7, none⟩)), (9, 90, int .i64 a1.line), (10, 91, agg [string O, int .i64 (ax (B.Lo + C)), int .i64 E, int .i64 q.Width, int .i64 a1.line].toArray), (11, 92, pointer (some ⟨J, 1, none⟩)), (12, 93, int .i64 q.Until)] D r ∧ Hp G' (bx J [int .i64 q.From, int .i64 q.Until, int .i64 q.Width, bool q.Hyphen] 46 :: bx V [int .i64 B.Lo, int .i64 B.Hi] 53 :: Bs :: bx T [bool aq] 4 :: bx S [int .i64 q.Until] 3 :: bx R [string O, int .i64 (ax (B.Lo + C)), int .i64 E, int .i64 q.Width, int .i64 a1.line] 50 :: bx am [int .i64 U] 3 :: bx I [slice Z a1.f.Glyphs.length c3, slice A6 a1.f.Kerns.length c7, int .i64 a1.b.Before, int .i64 a1.b.Behind, slice ad a1.b.Keep.length af, string a1.s, int .i64 a1.scale, int .i64 a1.line, int .i64 a1.align, int .i64 a1.dir, int .i64 a1.width, slice ag a1.l.length ah] 97 :: ((List.map uO (an :: ([] : List Nat)) ++ L) ++ M)) w) ∨ (D 15 = true ∧ ∃ (G' : Gh), aG ≤ G' ∧ ap [(3, pointer (some ⟨I, 0, none⟩)), (6, pointer (some ⟨R, 0, none⟩)), (7, pointer (some ⟨S, 0, none⟩)), (8, pointer (some ⟨T, 0, none⟩)), (9, int .i64 E), (11, pointer (some ⟨V, 0, none⟩)), (14, pointer (some ⟨J, 0, none⟩)), (16, string O), (17, int .i64 C)] [] [(0, 81, string O), (1, 82, pointer (some ⟨V, 0, none⟩)), (2, 83, int .i64 B.Lo), (3, 84, int .i64 C), (4, 85, int .i64 (ax (B.Lo + C))), (5, 86, int .i64 E), (6, 87, pointer (some ⟨J, 2, none⟩)), (7, 88, int .i64 q.Width), (8, 89, pointer (some ⟨I, 7, none⟩)), (9, 90, int .i64 a1.line), (10, 91, agg [string O, int .i64 (ax (B.Lo + C)), int .i64 E, int .i64 q.Width, int .i64 a1.line].toArray), (11, 92, pointer (some ⟨J, 1, none⟩)), (12, 93, int .i64 q.Until)] D r ∧ Hp G' (bx J [int .i64 q.From, int .i64 q.Until, int .i64 q.Width, bool q.Hyphen] 46 :: bx V [int .i64 B.Lo, int .i64 B.Hi] 53 :: Bs :: bx T [bool true] 4 :: bx S [int .i64 q.Until] 3 :: bx R [string O, int .i64 (ax (B.Lo + C)), int .i64 E, int .i64 q.Width, int .i64 a1.line] 50 :: bx am [int .i64 U] 3 :: bx I [slice Z a1.f.Glyphs.length c3, slice A6 a1.f.Kerns.length c7, int .i64 a1.b.Before, int .i64 a1.b.Behind, slice ad a1.b.Keep.length af, string a1.s, int .i64 a1.scale, int .i64 a1.line, int .i64 a1.align, int .i64 a1.dir, int .i64 a1.width, slice ag a1.l.length ah] 97 :: ((List.map uO (an :: ([] : List Nat)) ++ L) ++ M)) w)) jD z z ?_ ?_ ?_
 exact (.inl ⟨z, _, Gh.le_refl _, ap.start ⟨z, z, z, z, z, z, z, z, z, tv⟩ trivial, cm.drew⟩)
 refine ⟨?_, ?_, ?_, ?_, ?_, ?_, ?_, ?_, ?_, ?_, ?_, ?_, ?_, ?_, ?_, ?_, tv⟩
 rintro D r Q (⟨k, m, i, a, d⟩ | ⟨c, k, m, i, a, d⟩ | ⟨c, k, m, i, a, d⟩ | ⟨c, m, i, a, d⟩) t y n
 obtain ⟨F, rfl⟩ := Has.ex (cC (a.ins.get 7 rfl) cN)
 exact mv z<|nl ⟨z, (.inl ⟨k, _, i, (ap.step a t z z z z), d⟩)⟩
 cases (n 13 rfl).symm.trans c
 cases (n 14 rfl).symm.trans c
 cases (n 15 rfl).symm.trans c
 rintro D r Q (⟨k, m, i, a, d⟩ | ⟨c, k, m, i, a, d⟩ | ⟨c, k, m, i, a, d⟩ | ⟨c, m, i, a, d⟩) t y n
 obtain ⟨F, rfl⟩ := Has.ex (cC (a.ins.get 5 rfl) cN)
 exact fa kn z<|nl ⟨z, (.inl ⟨k, _, i, (ap.step a t z z z z), d⟩)⟩
 cases (n 13 rfl).symm.trans c
 cases (n 14 rfl).symm.trans c
 cases (n 15 rfl).symm.trans c
 rintro D r Q (⟨k, m, i, a, d⟩ | ⟨c, k, m, i, a, d⟩ | ⟨c, k, m, i, a, d⟩ | ⟨c, m, i, a, d⟩) t y n
 obtain ⟨F, rfl⟩ := Has.ex (cC (a.get 1 rfl (y 1 rfl)) cN)
 exact ld d 1 bv z z z<|nl ⟨z, (.inl ⟨k, _, i, (ap.step a t z z z z), d⟩)⟩
 cases (n 13 rfl).symm.trans c
 cases (n 14 rfl).symm.trans c
 cases (n 15 rfl).symm.trans c
 rintro D r Q (⟨k, m, i, a, d⟩ | ⟨c, k, m, i, a, d⟩ | ⟨c, k, m, i, a, d⟩ | ⟨c, m, i, a, d⟩) t y n
 obtain ⟨F, rfl⟩ := Has.ex (cC (a.ins.get 8 rfl) cN)
 exact mv z<|nl ⟨z, (.inl ⟨k, _, i, (ap.step a t z z z z), d⟩)⟩
 cases (n 13 rfl).symm.trans c
 cases (n 14 rfl).symm.trans c
 cases (n 15 rfl).symm.trans c
 rintro D r Q (⟨k, m, i, a, d⟩ | ⟨c, k, m, i, a, d⟩ | ⟨c, k, m, i, a, d⟩ | ⟨c, m, i, a, d⟩) t y n
 obtain ⟨F, rfl⟩ := Has.ex (cC (a.get 2 rfl (y 2 rfl)) (cC (a.get 3 rfl (y 3 rfl)) cN))
 exact ba z z<|nl ⟨z, (.inl ⟨k, _, i, (ap.step a t z z z z), d⟩)⟩
 cases (n 13 rfl).symm.trans c
 cases (n 14 rfl).symm.trans c
 cases (n 15 rfl).symm.trans c
 rintro D r Q (⟨k, m, i, a, d⟩ | ⟨c, k, m, i, a, d⟩ | ⟨c, k, m, i, a, d⟩ | ⟨c, m, i, a, d⟩) t y n
 obtain ⟨F, rfl⟩ := Has.ex (cC (a.ins.get 4 rfl) cN)
 exact mv z<|nl ⟨z, (.inl ⟨k, _, i, (ap.step a t z z z z), d⟩)⟩
 cases (n 13 rfl).symm.trans c
 cases (n 14 rfl).symm.trans c
 cases (n 15 rfl).symm.trans c
 rintro D r Q (⟨k, m, i, a, d⟩ | ⟨c, k, m, i, a, d⟩ | ⟨c, k, m, i, a, d⟩ | ⟨c, m, i, a, d⟩) t y n
 obtain ⟨F, rfl⟩ := Has.ex (cC (a.ins.get 6 rfl) cN)
 exact fa ng z<|nl ⟨z, (.inl ⟨k, _, i, (ap.step a t z z z z), d⟩)⟩
 cases (n 13 rfl).symm.trans c
 cases (n 14 rfl).symm.trans c
 cases (n 15 rfl).symm.trans c
 rintro D r Q (⟨k, m, i, a, d⟩ | ⟨c, k, m, i, a, d⟩ | ⟨c, k, m, i, a, d⟩ | ⟨c, m, i, a, d⟩) t y n
 obtain ⟨F, rfl⟩ := Has.ex (cC (a.get 6 rfl (y 6 rfl)) cN)
 exact ld d 0 bv z z z<|nl ⟨z, (.inl ⟨k, _, i, (ap.step a t z z z z), d⟩)⟩
 cases (n 13 rfl).symm.trans c
 cases (n 14 rfl).symm.trans c
 cases (n 15 rfl).symm.trans c
 rintro D r Q (⟨k, m, i, a, d⟩ | ⟨c, k, m, i, a, d⟩ | ⟨c, k, m, i, a, d⟩ | ⟨c, m, i, a, d⟩) t y n
 obtain ⟨F, rfl⟩ := Has.ex (cC (a.ins.get 0 rfl) cN)
 exact fa tT z<|nl ⟨z, (.inl ⟨k, _, i, (ap.step a t z z z z), d⟩)⟩
 cases (n 13 rfl).symm.trans c
 cases (n 14 rfl).symm.trans c
 cases (n 15 rfl).symm.trans c
 rintro D r Q (⟨k, m, i, a, d⟩ | ⟨c, k, m, i, a, d⟩ | ⟨c, k, m, i, a, d⟩ | ⟨c, m, i, a, d⟩) t y n
 obtain ⟨F, rfl⟩ := Has.ex (cC (a.get 8 rfl (y 8 rfl)) cN)
 exact ld d 7 bv z z z<|nl ⟨z, (.inl ⟨k, _, i, (ap.step a t z z z z), d⟩)⟩
 cases (n 13 rfl).symm.trans c
 cases (n 14 rfl).symm.trans c
 cases (n 15 rfl).symm.trans c
 rintro D r Q (⟨k, m, i, a, d⟩ | ⟨c, k, m, i, a, d⟩ | ⟨c, k, m, i, a, d⟩ | ⟨c, m, i, a, d⟩) t y n
 obtain ⟨F, rfl⟩ := Has.ex (cC (a.get 0 rfl (y 0 rfl)) (cC (a.get 4 rfl (y 4 rfl)) (cC (a.get 5 rfl (y 5 rfl)) (cC (a.get 7 rfl (y 7 rfl)) (cC (a.get 9 rfl (y 9 rfl)) cN)))))
 exact bO (vs := [(0, string O), (1, int .i64 (ax (B.Lo + C))), (2, int .i64 E), (3, int .i64 q.Width), (4, int .i64 a1.line)]) (cs := [string O, int .i64 (ax (B.Lo + C)), int .i64 E, int .i64 q.Width, int .i64 a1.line]) oX uv z z<|nl ⟨z, (.inl ⟨k, _, i, (ap.step a t z z z z), d⟩)⟩
 cases (n 13 rfl).symm.trans c
 cases (n 14 rfl).symm.trans c
 cases (n 15 rfl).symm.trans c
 rintro D r Q (⟨k, m, i, a, d⟩ | ⟨c, k, m, i, a, d⟩ | ⟨c, k, m, i, a, d⟩ | ⟨c, m, i, a, d⟩) t y n
 obtain ⟨F, rfl⟩ := Has.ex (cC (a.ins.get 6 rfl) cN)
 exact fa nG z<|nl ⟨z, (.inl ⟨k, _, i, (ap.step a t z z z z), d⟩)⟩
 obtain ⟨F, rfl⟩ := Has.ex (cC (a.ins.get 6 rfl) cN)
 exact fa nG z<|nl ⟨z, (.inr (.inl ⟨c, k, _, i, (ap.step a t z z z z), d⟩))⟩
 cases (n 14 rfl).symm.trans c
 cases (n 15 rfl).symm.trans c
 rintro D r Q (⟨k, m, i, a, d⟩ | ⟨c, k, m, i, a, d⟩ | ⟨c, k, m, i, a, d⟩ | ⟨c, m, i, a, d⟩) t y n
 obtain ⟨F, rfl⟩ := Has.ex (cC (a.get 11 rfl (y 11 rfl)) cN)
 exact ld d 0 bv z z z<|nl ⟨z, (.inl ⟨k, _, i, (ap.step a t z z z z), d⟩)⟩
 obtain ⟨F, rfl⟩ := Has.ex (cC (a.get 11 rfl (y 11 rfl)) cN)
 exact ld d 0 bv z z z<|nl ⟨z, (.inr (.inl ⟨c, k, _, i, (ap.step a t z z z z), d⟩))⟩
 cases (n 14 rfl).symm.trans c
 cases (n 15 rfl).symm.trans c
 rintro D r Q (⟨k, m, i, a, d⟩ | ⟨c, k, m, i, a, d⟩ | ⟨c, k, m, i, a, d⟩ | ⟨c, m, i, a, d⟩) t y n
 obtain ⟨F, rfl⟩ := Has.ex (cC (a.ins.get 1 rfl) (cC (a.get 10 rfl (y 10 rfl)) cN))
 exact fX d 5 vT z z z z z z z fun dq co=>nl ⟨z, (.inr (.inl ⟨z, (n 14 z), _, i, (ap.stepN a z z), co⟩))⟩
 cases t.symm.trans c
 cases (n 14 rfl).symm.trans c
 cases (n 15 rfl).symm.trans c
 rintro D r Q (⟨k, m, i, a, d⟩ | ⟨c, k, m, i, a, d⟩ | ⟨c, k, m, i, a, d⟩ | ⟨c, m, i, a, d⟩) t y n
 cases (y 13 rfl).symm.trans k
 obtain ⟨F, rfl⟩ := Has.ex (cC (a.ins.get 2 rfl) (cC (a.get 12 rfl (y 12 rfl)) cN))
 exact fX d 4 bv z z z z z z z fun dr cp=>nl ⟨z, (.inr (.inr (.inl ⟨z, (n 15 z), _, i, (ap.stepN a z z), cp⟩)))⟩
 cases t.symm.trans c
 cases (n 15 rfl).symm.trans c
 rintro D r Q (⟨k, m, i, a, d⟩ | ⟨c, k, m, i, a, d⟩ | ⟨c, k, m, i, a, d⟩ | ⟨c, m, i, a, d⟩) t y n
 cases (y 13 rfl).symm.trans k
 cases (y 14 rfl).symm.trans k
 obtain ⟨F, rfl⟩ := Has.ex (cC (a.ins.get 3 rfl) cN)
 exact fX d 3 zU z z z z z z z fun ds cq=>nl ⟨z, (.inr (.inr (.inr ⟨z, _, i, (ap.stepN a z z), cq⟩)))⟩
 cases t.symm.trans c
 intro D r Q aL hR
 rcases hR with ⟨k, m, i, a, d⟩ | ⟨c, k, m, i, a, d⟩ | ⟨c, k, m, i, a, d⟩ | ⟨c, m, i, a, d⟩
 cases (aL 13 (Nat.le_of_ble_eq_true rfl)).symm.trans k
 cases (aL 14 (Nat.le_of_ble_eq_true rfl)).symm.trans k
 cases (aL 15 (Nat.le_of_ble_eq_true rfl)).symm.trans k
 obtain ⟨F, rfl⟩ := Has.ex (r := r) cN
 refine cn _ _ _<|wr<|have cr:=Hp.pick 8 [2, 3, 4, 5, 6, 7] d z;?_
 cases H
 exact ⟨(.inl ⟨z, z⟩), _, _, i, ⟨(gT ai i), z, tv⟩, cr⟩)
 refine have ct:=Hp.sink (A := [bx aS [slice aT p.f.Glyphs.length aU, slice aV p.f.Kerns.length aW, int .i64 p.b.Before, int .i64 p.b.Behind, slice aX p.b.Keep.length aY, string p.s, int .i64 p.scale, int .i64 p.line, int .i64 p.align, int .i64 p.dir, int .i64 p.width, slice aZ p.l.length a0] 97, bx a2 [int .i64 bs] 3]) (K := [bx T [bool false] 4, bx S [int .i64 0] 3, bx R [string (⟨#[]⟩ : ByteArray), int .i64 0, int .i64 0, int .i64 0, int .i64 0] 50, bx am [int .i64 U] 3, bx I [slice Z a1.f.Glyphs.length c3, slice A6 a1.f.Kerns.length c7, int .i64 a1.b.Before, int .i64 a1.b.Behind, slice ad a1.b.Keep.length af, string a1.s, int .i64 a1.scale, int .i64 a1.line, int .i64 a1.align, int .i64 a1.dir, int .i64 a1.width, slice ag a1.l.length ah] 97]) be;(mA (sy := ((false, 0, (⟨#[]⟩ : ByteArray), 0, 0, 0, 0), none)) bI ct bz bA bB bC bD bE bF bG bL ⟨_, z, Gh.le_refl _, z, tv⟩).mono<|?_
 rintro _ dt ⟨du, bg, dv, cu, ⟨K, rfl, bh, rfl, _⟩, rfl⟩
 refine have bi:=Hp.front cu 2 z;?_
 rcases bH with _ | j
 refine ⟨_, rfl, LoopState.ready, none, bg, _, (fun h => nomatch h), bi, fun cw a3 => ?_⟩
 refine bp _ _ _<|sr fun dw cx=>bO (vs := []) (cs := [string (⟨#[]⟩ : ByteArray), int .i64 0, int .i64 0, int .i64 0, int .i64 0]) oX uv z z<|fX a3 4 vT z z z z z z z fun dx cy=>fX cy 3 bv z z z z z z z fun dy cz=>fX cz 2 zU z z z z z z z fun dz cA=>nl<|cx _ _ _<|wr<|?_
 refine ⟨.inr rfl, (an :: ([] : List Nat)), _, _, rfl, Hp.marks (K := [bx aS [slice aT p.f.Glyphs.length aU, slice aV p.f.Kerns.length aW, int .i64 p.b.Before, int .i64 p.b.Behind, slice aX p.b.Keep.length aY, string p.s, int .i64 p.scale, int .i64 p.line, int .i64 p.align, int .i64 p.dir, int .i64 p.width, slice aZ p.l.length a0] 97, bx a2 [int .i64 bd] 3, bx T [bool false] 4, bx S [int .i64 0] 3, bx R [string (⟨#[]⟩ : ByteArray), int .i64 0, int .i64 0, int .i64 0, int .i64 0] 50, bx am [int .i64 U] 3, bx I [slice Z a1.f.Glyphs.length c3, slice A6 a1.f.Kerns.length c7, int .i64 a1.b.Before, int .i64 a1.b.Behind, slice ad a1.b.Keep.length af, string a1.s, int .i64 a1.scale, int .i64 a1.line, int .i64 a1.align, int .i64 a1.dir, int .i64 a1.width, slice ag a1.l.length ah] 97]) cA, fun dA aJ => ?_⟩
 refine have cB:=qp (P := Tryz.prog) aJ 2 (v := bool false) (g := T) (o := 0) zU z z;have cD:=qp (P := Tryz.prog) aJ 3 (v := int .i64 0) (g := S) (o := 0) bv z z;have cE:=bW (P := Tryz.prog) aJ 4 (cs := [string (⟨#[]⟩ : ByteArray), int .i64 0, int .i64 0, int .i64 0, int .i64 0]) (g := R) (o := 0) vT z z z;have cF:=Hp.pick 7 [] aJ z;?_
 cases H
 exact ⟨_, ⟨_, _, _, z, z, cE, ⟨_, _, _, z, z, cD, ⟨_, _, _, z, z, cB, z⟩⟩⟩, (Hp.low (gT ak bh) cF), z⟩
 rcases j with _ | j
 refine ⟨_, rfl, LoopState.done, (some Code.ret), bg, _, (fun h => nomatch h), bi, fun cw a3 => ?_⟩
 refine ⟨.inr rfl, (an :: ([] : List Nat)), _, _, rfl, Hp.marks (K := [bx aS [slice aT p.f.Glyphs.length aU, slice aV p.f.Kerns.length aW, int .i64 p.b.Before, int .i64 p.b.Behind, slice aX p.b.Keep.length aY, string p.s, int .i64 p.scale, int .i64 p.line, int .i64 p.align, int .i64 p.dir, int .i64 p.width, slice aZ p.l.length a0] 97, bx a2 [int .i64 bd] 3, bx T [bool aq] 4, bx S [int .i64 aw] 3, bx R [string az, int .i64 aA, int .i64 aB, int .i64 aC, int .i64 aD] 50, bx am [int .i64 U] 3, bx I [slice Z a1.f.Glyphs.length c3, slice A6 a1.f.Kerns.length c7, int .i64 a1.b.Before, int .i64 a1.b.Behind, slice ad a1.b.Keep.length af, string a1.s, int .i64 a1.scale, int .i64 a1.line, int .i64 a1.align, int .i64 a1.dir, int .i64 a1.width, slice ag a1.l.length ah] 97]) a3, fun dB aK => ?_⟩
 refine have cG:=qp (P := Tryz.prog) aK 2 (v := bool aq) (g := T) (o := 0) zU z z;have cH:=qp (P := Tryz.prog) aK 3 (v := int .i64 aw) (g := S) (o := 0) bv z z;have cI:=bW (P := Tryz.prog) aK 4 (cs := [string az, int .i64 aA, int .i64 aB, int .i64 aC, int .i64 aD]) (g := R) (o := 0) vT z z z;have cJ:=Hp.pick 7 [] aK z;?_
 cases H
 exact ⟨_, ⟨_, _, _, z, z, cI, ⟨_, _, _, z, z, cH, ⟨_, _, _, z, z, cG, z⟩⟩⟩, (Hp.low (gT ak bh) cJ), z⟩
 cases H
theorem sD {a1 a2 E a4 T U V Z aa ab ad ae ai aC aD G L w} (H : k5 a1 a2 E a4 = some (ai, aC, aD)) (hI : Hp G L w) (aN : a4.f.Glyphs.length ≤ U) (aO : Dat au G T a4.f.Glyphs) (aP : a4.f.Kerns.length ≤ Z) (aQ : Dat ay G V a4.f.Kerns) (aR : a4.b.Keep.length ≤ ab) (aS : Dat Kd.str G aa a4.b.Keep) (aT : a4.l.length ≤ ae) (aU : Dat bm G ad a4.l) (aL : Gl G) :
    Calls Tryz.prog 51 [string a1, int .i64 a2, int .i64 E, func (.func 52) [agg [slice T a4.f.Glyphs.length U, slice V a4.f.Kerns.length Z, int .i64 a4.b.Before, int .i64 a4.b.Behind, slice aa a4.b.Keep.length ab, string a4.s, int .i64 a4.scale, int .i64 a4.line, int .i64 a4.align, int .i64 a4.dir, int .i64 a4.width, slice ad a4.l.length ae].toArray].toArray [].toArray].toArray w fun e w' => ∃ (ao : Option Addr) (ar : Nat) (G' : Gh), G ≤ G' ∧ Hp G' (tk (slice ao ai.length ar) 5 50 :: L) w' ∧ ai.length ≤ ar ∧ Dat b6 G' ao ai ∧ Own ao ar ∧ e = .returned (tuple [slice ao ai.length ar, int .i64 aC, bool aD].toArray) := by
 refine ac (N := 50) Tryz.func51 z z (Nat.le_of_ble_eq_true z)<|?_
 unfold k5 at H
 refine sr fun bG aV=>aj z<|aj z<|aj z<|nl<|aV _ _ _<|zA<|sr fun bH aW=>aj z<|nl<|aW _ _ _<|sr fun bI aX=>aj z<|nl<|?_
 refine aX _ _ _<|sQ fun bJ aY=>zb<|aY _ _ _<|sQ fun bL aZ=>wb<|bK H fun az hC H=>?_
 refine aq (Q := fun e r ds w => match (generalizing := false) az with | (Sum.inl _) => e = .ret ∧ ds = [] ∧ Has [(8, slice none 0 0), (9, int .i64 0), (10, bool false)] r ∧ Hp G (L) w ∧ True | (Sum.inr (aE, ak)) => e = .exit 0 ∧ ∃ (af : Option Addr) (ag : Nat) (av : Gh), ds = [] ∧ G ≤ av ∧ Has [(1, int .i64 aE), (11, slice af ak.length ag)] r ∧ Hp av (tk (slice af ak.length ag) 5 50 :: L) w ∧ ak.length ≤ ag ∧ Dat b6 av af ak ∧ Own af ag ∧ True) ?_ ?_
 refine have a0:=Hp.emp hI;aB fun I aw=>?_
 refine fh.partial_correctness a1 E a4 (fun aF C aA o => ∀ (F : Option Addr) (J : Nat) (S : Gh) (r : Rg) (w : World), G ≤ S → Has [(0, string a1), (1, int .i64 aF), (2, int .i64 E), (3, func (.func 52) [agg [slice T a4.f.Glyphs.length U, slice V a4.f.Kerns.length Z, int .i64 a4.b.Before, int .i64 a4.b.Behind, slice aa a4.b.Keep.length ab, string a4.s, int .i64 a4.scale, int .i64 a4.line, int .i64 a4.align, int .i64 a4.dir, int .i64 a4.width, slice ad a4.l.length ae].toArray].toArray [].toArray), (11, slice F C.length J), (12, int .i64 aA)] r → Hp S (tk (slice F C.length J) 5 50 :: L) w → C.length ≤ J → Dat b6 S F C → Own F J → o = az → I r [] w) ?_ a2 ([] : List an) 0 _ hC none 0 _ _ _ gR ⟨rfl, rfl, rfl, rfl, rfl, rfl, tv⟩ a0 (show ([] : List an).length ≤ 0 from Nat.le_refl 0) (Dat.nil _ _ _) Own.nil rfl
 intro _ ih aF C aA o H F J S r bM P O a5 aG aH aI ho
 rw [ho] at H; clear ho
 rw [O.eq]; clear O
 refine aw _ _ _<|wb<|sQ fun bO a6=>sr fun bP a7=>mv z<|mv z<|iK H fun⟨a8, a9⟩H=>ug (l := aA) (h := (a1.size : Int)) fA z (.inr ⟨_, z, z⟩) (.inl ⟨z, z⟩) a8 a9 (Int.le_refl _)<|iJ H fun bb bQ bc H=>cv Ec (pt bc a5) z z fun bR aJ=>mv z<|cK z z<|cK z z<|aj z<|?_
 refine aj z<|nl<|a7 _ _ _<|wb<|aB fun I aw => aw _ _ _<|sQ fun bS bd=>sr fun bT bf=>mv z<|bA z z<|nl<|bf _ _ _<|dC (bb = 0) (fun al=>?_) fun al=>?_
 refine yK al H fun H=>wt (bY al)<|ws<|bd _ _ _<|wb<|wx<|?_
 cases H
 exact ⟨z, F, J, _, z, P, ⟨z, z, tv⟩, aJ, aG, aH, aI, tv⟩
 refine nK al H fun H=>wf (bN al)<|wx<|a6 _ _ _<|sr fun bU bg=>mv z<|mv z<|mv z<|xr H fun c R bh bi H=>cv bo52 (pP bi aJ aN (Dat.mono P aO) aP (Dat.mono P aQ) aR (Dat.mono P aS) aT (Dat.mono P aU) (aL.mono P)) z z fun bV bj=>mv z<|cK z z<|cK z z<|cK z z<|?_
 refine aM bj oX fun M bW bk=>fX bk 0 vT z z z z z z z fun bX aK=>aj z<|aj z<|nl<|bg _ _ _<|sQ fun bZ bl=>sr fun b0 bn=>mv z<|be z<|nl<|bn _ _ _<|dC ((!bh) = true) (fun am=>?_) fun am=>?_
 refine yK am H fun H=>wt (vY am)<|sr fun b1 bo=>aj z<|aj z<|aj z<|nl<|bo _ _ _<|wr<|have bp:=Hp.pick 2 [] aK z;?_
 cases H
 exact ⟨z, z, ⟨z, z, z, tv⟩, (Hp.low P bp), tv⟩
 refine nK am H fun H=>wf (vN am)<|ws<|bl _ _ _<|iK H fun b2 H=>?_
 refine eC [0, 0, 2, 7, 0, 0, 32, 0, 224, 15, 543, 2047] (fun D r w => (D 2 = false ∧ ∃ (G' : Gh), S ≤ G' ∧ ap [(0, string a1), (2, int .i64 E), (3, func (.func 52) [agg [slice T a4.f.Glyphs.length U, slice V a4.f.Kerns.length Z, int .i64 a4.b.Before, int .i64 a4.b.Behind, slice aa a4.b.Keep.length ab, string a4.s, int .i64 a4.scale, int .i64 a4.line, int .i64 a4.align, int .i64 a4.dir, int .i64 a4.width, slice ad a4.l.length ae].toArray].toArray [].toArray), (15, pointer (some ⟨M, 0, none⟩)), (16, int .i64 R)] [(11, slice F C.length J, 9)] [(0, 37, slice F C.length J), (1, 38, agg [string c.Text, int .i64 c.X, int .i64 c.Y, int .i64 c.W, int .i64 c.H].toArray), (4, 41, int .i64 R), (5, 42, pointer (some ⟨M, 2, none⟩)), (6, 43, int .i64 c.Y), (7, 44, int .i64 E), (8, 45, int .i64 (ax (c.Y + E)))] D r ∧ Hp G' (bx M [string c.Text, int .i64 c.X, int .i64 c.Y, int .i64 c.W, int .i64 c.H] 50 :: tk (slice F C.length J) 5 50 :: L) w) ∨ (D 2 = true ∧ D 3 = false ∧ ∃ (i : Nat) (G' : Gh), S ≤ G' ∧ ap [(0, string a1), (2, int .i64 E), (3, func (.func 52) [agg [slice T a4.f.Glyphs.length U, slice V a4.f.Kerns.length Z, int .i64 a4.b.Before, int .i64 a4.b.Behind, slice aa a4.b.Keep.length ab, string a4.s, int .i64 a4.scale, int .i64 a4.line, int .i64 a4.align, int .i64 a4.dir, int .i64 a4.width, slice ad a4.l.length ae].toArray].toArray [].toArray), (15, pointer (some ⟨M, 0, none⟩)), (16, int .i64 R)] [(11, slice F C.length J, 9)] [(0, 37, slice F C.length J), (1, 38, agg [string c.Text, int .i64 c.X, int .i64 c.Y, int .i64 c.W, int .i64 c.H].toArray), (4, 41, int .i64 R), (5, 42, pointer (some ⟨M, 2, none⟩)), (6, 43, int .i64 c.Y), (7, 44, int .i64 E), (8, 45, int .i64 (ax (c.Y + E))), (2, 39, slice (some ⟨i, 0, none⟩) 1 1)] D r ∧ Hp G' (bx i [string c.Text, int .i64 c.X, int .i64 c.Y, int .i64 c.W, int .i64 c.H] 50 :: bx M [string c.Text, int .i64 c.X, int .i64 c.Y, int .i64 c.W, int .i64 c.H] 50 :: tk (slice F C.length J) 5 50 :: L) w) ∨ (D 3 = true ∧ ∃ (i : Nat) (q : Option Addr) (t : Nat) (G' : Gh), S ≤ G' ∧ (C ++ [c]).length ≤ t ∧ Dat b6 G' q (C ++ [c]) ∧ Own q t ∧ ap [(0, string a1), (2, int .i64 E), (3, func (.func 52) [agg [slice T a4.f.Glyphs.length U, slice V a4.f.Kerns.length Z, int .i64 a4.b.Before, int .i64 a4.b.Behind, slice aa a4.b.Keep.length ab, string a4.s, int .i64 a4.scale, int .i64 a4.line, int .i64 a4.align, int .i64 a4.dir, int .i64 a4.width, slice ad a4.l.length ae].toArray].toArray [].toArray), (15, pointer (some ⟨M, 0, none⟩)), (16, int .i64 R)] [(11, slice F C.length J, 9)] [(0, 37, slice F C.length J), (1, 38, agg [string c.Text, int .i64 c.X, int .i64 c.Y, int .i64 c.W, int .i64 c.H].toArray), (4, 41, int .i64 R), (5, 42, pointer (some ⟨M, 2, none⟩)), (6, 43, int .i64 c.Y), (7, 44, int .i64 E), (8, 45, int .i64 (ax (c.Y + E))), (2, 39, slice (some ⟨i, 0, none⟩) 1 1), (3, 40, slice q (C ++ [c]).length t), (9, 11, slice q (C ++ [c]).length t), (10, 12, int .i64 R), (11, 1, int .i64 (ax (c.Y + E)))] D r ∧ Hp G' (bx i [string c.Text, int .i64 c.X, int .i64 c.Y, int .i64 c.W, int .i64 c.H] 50 :: bx M [string c.Text, int .i64 c.X, int .i64 c.Y, int .i64 c.W, int .i64 c.H] 50 :: tk (slice q (C ++ [c]).length t) 5 50 :: L) w)) jD z z ?_ ?_ ?_
 exact (.inl ⟨z, _, Gh.le_refl _, ap.start ⟨z, z, z, z, z, tv⟩ ⟨z, tv⟩, aK.drew⟩)
 refine ⟨?_, ?_, ?_, ?_, ?_, ?_, ?_, ?_, ?_, ?_, ?_, ?_, tv⟩
 rintro D r K (⟨j, n, g, a, d⟩ | ⟨k, j, i, n, g, a, d⟩ | ⟨k, i, q, t, n, g, u, v, y, a, d⟩) m p B
 obtain ⟨A, rfl⟩ := Has.ex (cC (a.get2 0 rfl (B 9 rfl)) cN)
 exact mv z<|nl ⟨z, (.inl ⟨j, _, g, (ap.step a m z z z z), d⟩)⟩
 obtain ⟨A, rfl⟩ := Has.ex (cC (a.get2 0 rfl (B 9 rfl)) cN)
 exact mv z<|nl ⟨z, (.inr (.inl ⟨k, j, i, _, g, (ap.step a m z z z z), d⟩))⟩
 cases (B 3 rfl).symm.trans k
 rintro D r K (⟨j, n, g, a, d⟩ | ⟨k, j, i, n, g, a, d⟩ | ⟨k, i, q, t, n, g, u, v, y, a, d⟩) m p B
 obtain ⟨A, rfl⟩ := Has.ex (cC (a.ins.get 3 rfl) cN)
 exact d9 d 0 vT z z z z<|nl ⟨z, (.inl ⟨j, _, g, (ap.step a m z z z z), d⟩)⟩
 cases (B 2 rfl).symm.trans k
 cases (B 3 rfl).symm.trans k
 rintro D r K (⟨j, n, g, a, d⟩ | ⟨k, j, i, n, g, a, d⟩ | ⟨k, i, q, t, n, g, u, v, y, a, d⟩) m p B
 obtain ⟨A, rfl⟩ := Has.ex (cC (a.get 1 rfl (p 1 rfl)) cN)
 refine mm d (vs := [(0, agg [string c.Text, int .i64 c.X, int .i64 c.Y, int .i64 c.W, int .i64 c.H].toArray)]) (cs := [string c.Text, int .i64 c.X, int .i64 c.Y, int .i64 c.W, int .i64 c.H]) ut oX rfl (by decide) rfl rfl (fun i b3 bq => ?_)
 exact nl ⟨z, (.inr (.inl ⟨z, (B 3 z), i, _, g, (ap.step (ap.more (new := [(2, 39, slice (some ⟨i, 0, none⟩) 1 1)]) a (List.forall_mem_cons.2 ⟨m, (fun _ h => nomatch h)⟩)) m z z z z), bq⟩))⟩
 cases m.symm.trans k
 cases (B 3 rfl).symm.trans k
 rintro D r K (⟨j, n, g, a, d⟩ | ⟨k, j, i, n, g, a, d⟩ | ⟨k, i, q, t, n, g, u, v, y, a, d⟩) m p B
 cases (p 2 rfl).symm.trans j
 obtain ⟨A, rfl⟩ := Has.ex (cC (a.get 0 rfl (p 0 rfl)) (cC (a.get 7 rfl (p 2 rfl)) cN))
 refine lu (xs := C) (ys := [c]) b6 d 2 ut oX rfl rfl rfl rfl aI aG (Dat.mono g aH) (jF d 0 yh rfl rfl) ⟨[string c.Text, int .i64 c.X, int .i64 c.Y, int .i64 c.W, int .i64 c.H], _, rfl, (iZ (x := c)), rfl⟩ rfl (by simp only [List.length_cons, List.length_nil]; omega) (by simp only [List.length_cons, List.length_nil]; omega) (fun q t b4 b5 br y u v bs => ?_)
 exact nl ⟨z, (.inr (.inr ⟨z, i, q, t, _, (gT g br), u, v, y, (ap.step (ap.more (new := [(3, 40, slice q (C ++ [c]).length t), (9, 11, slice q (C ++ [c]).length t), (10, 12, int .i64 R), (11, 1, int .i64 (ax (c.Y + E)))]) a (List.forall_mem_cons.2 ⟨m, (List.forall_mem_cons.2 ⟨B 9 z, (List.forall_mem_cons.2 ⟨B 10 z, (List.forall_mem_cons.2 ⟨B 11 z, (fun _ h => nomatch h)⟩)⟩)⟩)⟩)) m z z z z), bs⟩))⟩
 cases m.symm.trans k
 rintro D r K (⟨j, n, g, a, d⟩ | ⟨k, j, i, n, g, a, d⟩ | ⟨k, i, q, t, n, g, u, v, y, a, d⟩) m p B
 obtain ⟨A, rfl⟩ := Has.ex (cC (a.ins.get 4 rfl) cN)
 exact mv z<|nl ⟨z, (.inl ⟨j, _, g, (ap.step a m z z z z), d⟩)⟩
 obtain ⟨A, rfl⟩ := Has.ex (cC (a.ins.get 4 rfl) cN)
 exact mv z<|nl ⟨z, (.inr (.inl ⟨k, j, i, _, g, (ap.step a m z z z z), d⟩))⟩
 obtain ⟨A, rfl⟩ := Has.ex (cC (a.ins.get 4 rfl) cN)
 exact mv z<|nl ⟨z, (.inr (.inr ⟨k, i, q, t, _, g, u, v, y, (ap.step a m z z z z), d⟩))⟩
 rintro D r K (⟨j, n, g, a, d⟩ | ⟨k, j, i, n, g, a, d⟩ | ⟨k, i, q, t, n, g, u, v, y, a, d⟩) m p B
 obtain ⟨A, rfl⟩ := Has.ex (cC (a.ins.get 3 rfl) cN)
 exact fa xz z<|nl ⟨z, (.inl ⟨j, _, g, (ap.step a m z z z z), d⟩)⟩
 obtain ⟨A, rfl⟩ := Has.ex (cC (a.ins.get 3 rfl) cN)
 exact fa xz z<|nl ⟨z, (.inr (.inl ⟨k, j, i, _, g, (ap.step a m z z z z), d⟩))⟩
 obtain ⟨A, rfl⟩ := Has.ex (cC (a.ins.get 3 rfl) cN)
 exact fa xz z<|nl ⟨z, (.inr (.inr ⟨k, i, q, t, _, g, u, v, y, (ap.step a m z z z z), d⟩))⟩
 rintro D r K (⟨j, n, g, a, d⟩ | ⟨k, j, i, n, g, a, d⟩ | ⟨k, i, q, t, n, g, u, v, y, a, d⟩) m p B
 obtain ⟨A, rfl⟩ := Has.ex (cC (a.get 3 rfl (p 5 rfl)) cN)
 exact ld d 0 bv z z z<|nl ⟨z, (.inl ⟨j, _, g, (ap.step a m z z z z), d⟩)⟩
 obtain ⟨A, rfl⟩ := Has.ex (cC (a.get 3 rfl (p 5 rfl)) cN)
 exact ld d 1 bv z z z<|nl ⟨z, (.inr (.inl ⟨k, j, i, _, g, (ap.step a m z z z z), d⟩))⟩
 obtain ⟨A, rfl⟩ := Has.ex (cC (a.get 3 rfl (p 5 rfl)) cN)
 exact ld d 1 bv z z z<|nl ⟨z, (.inr (.inr ⟨k, i, q, t, _, g, u, v, y, (ap.step a m z z z z), d⟩))⟩
 rintro D r K (⟨j, n, g, a, d⟩ | ⟨k, j, i, n, g, a, d⟩ | ⟨k, i, q, t, n, g, u, v, y, a, d⟩) m p B
 obtain ⟨A, rfl⟩ := Has.ex (cC (a.ins.get 1 rfl) cN)
 exact mv z<|nl ⟨z, (.inl ⟨j, _, g, (ap.step a m z z z z), d⟩)⟩
 obtain ⟨A, rfl⟩ := Has.ex (cC (a.ins.get 1 rfl) cN)
 exact mv z<|nl ⟨z, (.inr (.inl ⟨k, j, i, _, g, (ap.step a m z z z z), d⟩))⟩
 obtain ⟨A, rfl⟩ := Has.ex (cC (a.ins.get 1 rfl) cN)
 exact mv z<|nl ⟨z, (.inr (.inr ⟨k, i, q, t, _, g, u, v, y, (ap.step a m z z z z), d⟩))⟩
 rintro D r K (⟨j, n, g, a, d⟩ | ⟨k, j, i, n, g, a, d⟩ | ⟨k, i, q, t, n, g, u, v, y, a, d⟩) m p B
 obtain ⟨A, rfl⟩ := Has.ex (cC (a.get 4 rfl (p 6 rfl)) (cC (a.get 5 rfl (p 7 rfl)) cN))
 exact ba z z<|nl ⟨z, (.inl ⟨j, _, g, (ap.step a m z z z z), d⟩)⟩
 obtain ⟨A, rfl⟩ := Has.ex (cC (a.get 4 rfl (p 6 rfl)) (cC (a.get 5 rfl (p 7 rfl)) cN))
 exact ba z z<|nl ⟨z, (.inr (.inl ⟨k, j, i, _, g, (ap.step a m z z z z), d⟩))⟩
 obtain ⟨A, rfl⟩ := Has.ex (cC (a.get 4 rfl (p 6 rfl)) (cC (a.get 5 rfl (p 7 rfl)) cN))
 exact ba z z<|nl ⟨z, (.inr (.inr ⟨k, i, q, t, _, g, u, v, y, (ap.step a m z z z z), d⟩))⟩
 rintro D r K (⟨j, n, g, a, d⟩ | ⟨k, j, i, n, g, a, d⟩ | ⟨k, i, q, t, n, g, u, v, y, a, d⟩) m p B
 cases (p 2 rfl).symm.trans j
 cases (p 3 rfl).symm.trans j
 obtain ⟨A, rfl⟩ := Has.ex (cC (a.get 8 rfl (p 3 rfl)) cN)
 exact aj z<|nl ⟨z, (.inr (.inr ⟨k, i, q, t, _, g, u, v, y, (ap.step a m z z z z), d⟩))⟩
 rintro D r K (⟨j, n, g, a, d⟩ | ⟨k, j, i, n, g, a, d⟩ | ⟨k, i, q, t, n, g, u, v, y, a, d⟩) m p B
 cases (p 2 rfl).symm.trans j
 cases (p 3 rfl).symm.trans j
 obtain ⟨A, rfl⟩ := Has.ex (cC (a.get 2 rfl (p 4 rfl)) cN)
 exact aj z<|nl ⟨z, (.inr (.inr ⟨k, i, q, t, _, g, u, v, y, (ap.step a m z z z z), d⟩))⟩
 rintro D r K (⟨j, n, g, a, d⟩ | ⟨k, j, i, n, g, a, d⟩ | ⟨k, i, q, t, n, g, u, v, y, a, d⟩) m p B
 cases (p 2 rfl).symm.trans j
 cases (p 3 rfl).symm.trans j
 obtain ⟨A, rfl⟩ := Has.ex (cC (a.get 6 rfl (p 8 rfl)) cN)
 exact aj z<|nl ⟨z, (.inr (.inr ⟨k, i, q, t, _, g, u, v, y, (ap.step a m z z z z), d⟩))⟩
 intro D r K ah hR
 rcases hR with ⟨j, n, g, a, d⟩ | ⟨k, j, i, n, g, a, d⟩ | ⟨k, i, q, t, n, g, u, v, y, a, d⟩
 cases (ah 2 (Nat.le_of_ble_eq_true rfl)).symm.trans j
 cases (ah 3 (Nat.le_of_ble_eq_true rfl)).symm.trans j
 obtain ⟨A, rfl⟩ := Has.ex (cC (a.ins.get 0 rfl) (cC (a.get 11 rfl (ah 11 (Nat.le_of_ble_eq_true rfl))) (cC (a.ins.get 1 rfl) (cC (a.ins.get 2 rfl) (cC (a.get 9 rfl (ah 9 (Nat.le_of_ble_eq_true rfl))) (cC (a.get 10 rfl (ah 10 (Nat.le_of_ble_eq_true rfl))) cN))))))
 exact have bt:=Hp.pick 3 [2] d z;ih _ _ _ _ H q t _ _ _ (gT P g) ⟨z, z, z, z, z, z, tv⟩ bt u v y z
 rcases az with _ | ⟨aE, ak⟩
 rintro e r ds b7 ⟨rfl, rfl, O, bu, _⟩
 rw [O.eq]; clear O
 refine have bw:=Hp.emp bu;?_
 cases H
 exact ⟨.inr z, z, _, ⟨_, _, z, z, ⟨_, _, z, z, ⟨_, _, z, z, z⟩⟩⟩, none, 0, _, gR, bw, (show ([] : List an).length ≤ 0 from Nat.le_refl 0), (Dat.nil _ _ _), Own.nil, z⟩
 rintro e r ds b8 ⟨rfl, af, ag, av, rfl, bz, O, bB, bC, bD, bE, _⟩
 rw [O.eq]; clear O
 refine aZ _ _ _<|sr fun b9 bF=>mv z<|mv z<|mv z<|eI z z<|aj z<|aj z<|aj z<|nl<|bF _ _ _<|wr<|?_
 cases H
 exact ⟨.inr z, z, _, ⟨_, _, z, z, ⟨_, _, z, z, ⟨_, _, z, z, z⟩⟩⟩, af, ag, _, bz, bB, bC, bD, bE, z⟩
theorem ib {a1 a10 a b a17 c d f t a22 g h i j k l m n o y A G L w} (H : fC a1 a10 a b a17 c d f t a22 = some (o, y, A)) (hI : Hp G L w) (B : a1.Glyphs.length ≤ h) (C : Dat au G g a1.Glyphs) (D : a1.Kerns.length ≤ j) (E : Dat ay G i a1.Kerns) (F : a10.Keep.length ≤ l) (I : Dat Kd.str G k a10.Keep) (J : a22.length ≤ n) (K : Dat bm G m a22) (x : Gl G) :
    Calls Tryz.prog 24 [agg [slice g a1.Glyphs.length h, slice i a1.Kerns.length j].toArray, agg [int .i64 a10.Before, int .i64 a10.Behind, slice k a10.Keep.length l].toArray, string a, int .i64 b, int .i64 a17, int .i64 c, int .i64 d, int .i64 f, int .i64 t, slice m a22.length n].toArray w fun e w' => ∃ (r : Option Addr) (s : Nat) (G' : Gh), G ≤ G' ∧ Hp G' (tk (slice r o.length s) 5 50 :: L) w' ∧ o.length ≤ s ∧ Dat b6 G' r o ∧ Own r s ∧ e = .returned (tuple [slice r o.length s, int .i64 y, int .i64 A].toArray) := by
 refine ac (N := 58) Tryz.func24 z z (Nat.le_of_ble_eq_true z)<|?_
 unfold fC at H
 refine sr fun ax Q=>io hI z z fun az aA R=>io R z z fun aB aC u=>aj z<|aj z<|aj z<|nl<|Q _ _ _<|sr fun aD S=>d9 u 1 fw z z z z<|d9 u 0 jT z z z z<|mv z<|mv z<|mv z<|?_
 refine mv z<|mv z<|mv z<|mv z<|bO (vs := [(0, agg [slice g a1.Glyphs.length h, slice i a1.Kerns.length j].toArray), (1, agg [int .i64 a10.Before, int .i64 a10.Behind, slice k a10.Keep.length l].toArray), (2, string a), (3, int .i64 b), (4, int .i64 a17), (5, int .i64 c), (6, int .i64 d), (7, int .i64 f), (8, slice m a22.length n)]) (cs := [slice g a1.Glyphs.length h, slice i a1.Kerns.length j, int .i64 a10.Before, int .i64 a10.Behind, slice k a10.Keep.length l, string a, int .i64 b, int .i64 a17, int .i64 c, int .i64 d, int .i64 f, slice m a22.length n]) D5 pl97 z z<|aM u D5 fun aE aF T=>fX T 0 Bh z z z z z z z fun aG M=>nl<|S _ _ _<|sQ fun aH U=>sr fun aI V=>d9 M 0 Bh z z z z<|mv z<|bK H fun W X H=>?_
 refine cv bo50 (o6 (a1 := (⟨a1, a10, a, b, a17, c, d, f, a22⟩ : aX)) X M B C D E F I J K (x.mono gR)) z z fun aJ v=>aj z<|nl<|V _ _ _<|sr fun aK Y=>mv z<|dW z z<|nl<|Y _ _ _<|dC (¬ W = 0) (fun p=>?_) fun p=>?_
 refine yK p H fun H=>wt (bY p)<|sr fun aL Z=>mv z<|aj z<|aj z<|aj z<|nl<|Z _ _ _<|wr<|have aa:=Hp.emp v;have ab:=Hp.pick 4 [0] aa z;?_
 cases H
 exact ⟨.inr z, z, _, ⟨_, _, z, z, ⟨_, _, z, z, ⟨_, _, z, z, z⟩⟩⟩, none, 0, _, gR, ab, (show ([] : List an).length ≤ 0 from Nat.le_refl 0), (Dat.nil _ _ _), Own.nil, z⟩
 refine nK p H fun H=>wf (bN p)<|ws<|U _ _ _<|sr fun aN ad=>mv z<|mv z<|mv z<|d9 v 0 Bh z z z z<|qG (vs := [agg [slice g a1.Glyphs.length h, slice i a1.Kerns.length j, int .i64 a10.Before, int .i64 a10.Behind, slice k a10.Keep.length l, string a, int .i64 b, int .i64 a17, int .i64 c, int .i64 d, int .i64 f, slice m a22.length n].toArray]) (us := []) z z<|xr H fun aO aP ae af H=>fU (vs := [string a, int .i64 t, int .i64 a17, func (.func 52) [agg [slice g a1.Glyphs.length h, slice i a1.Kerns.length j, int .i64 a10.Before, int .i64 a10.Behind, slice k a10.Keep.length l, string a, int .i64 b, int .i64 a17, int .i64 c, int .i64 d, int .i64 f, slice m a22.length n].toArray].toArray [].toArray]) bo51 z z (sD (a4 := (⟨a1, a10, a, b, a17, c, d, f, a22⟩ : aX)) af v B C D E F I J K (x.mono gR))<|?_
 rintro _ aQ ⟨ag, ah, aR, O, P, ai, ak, al, rfl⟩
 refine ⟨_, rfl, ?_⟩
 refine mv z<|cK z z<|cK z z<|cK z z<|aj z<|aj z<|aj z<|nl<|ad _ _ _<|sQ fun aS am=>sr fun aT ao=>mv z<|be z<|nl<|?_
 refine ao _ _ _<|dC ((!ae) = true) (fun q=>?_) fun q=>?_
 refine yK q H fun H=>wt (vY q)<|sr fun aU ap=>aj z<|aj z<|aj z<|nl<|ap _ _ _<|wr<|have aq:=Hp.emp P;have ar:=Hp.pick 5 [0] aq z;?_
 cases H
 exact ⟨.inr z, z, _, ⟨_, _, z, z, ⟨_, _, z, z, ⟨_, _, z, z, z⟩⟩⟩, none, 0, _, O, ar, (show ([] : List an).length ≤ 0 from Nat.le_refl 0), (Dat.nil _ _ _), Own.nil, z⟩
 refine nK q H fun H=>wf (vN q)<|ws<|am _ _ _<|sr fun aV av=>mv z<|mv z<|aj z<|aj z<|aj z<|nl<|av _ _ _<|wr<|have aw:=Hp.pick 4 [0] P z;?_
 cases H
 exact ⟨.inr z, z, _, ⟨_, _, z, z, ⟨_, _, z, z, ⟨_, _, z, z, z⟩⟩⟩, ag, ah, _, O, aw, ai, ak, al, z⟩
theorem gi {b G L w} (H : eR = some b) (hI : Hp G L w) :
    Calls Tryz.prog 25 [].toArray w fun e w' => ∃ (v : Option Addr) (y : Nat) (A : Option Addr) (B : Nat) (G' : Gh), G ≤ G' ∧ Hp G' (L) w' ∧ b.Glyphs.length ≤ y ∧ Dat au G' v b.Glyphs ∧ b.Kerns.length ≤ B ∧ Dat ay G' A b.Kerns ∧ e = .returned (agg [slice v b.Glyphs.length y, slice A b.Kerns.length B].toArray) := by
 refine ac (N := 19) Tryz.func25 z z (Nat.le_of_ble_eq_true z)<|?_
 unfold eR at H
 refine sr fun K1 S=>aM hI Dm fun l aH T=>nl<|S _ _ _<|sr fun K7 U=>bO (vs := [(0, int .u8 32), (1, int .i64 10)]) (cs := [int .u8 32, int .i64 10]) nm zY z z<|bO (vs := [(0, int .u8 45), (1, int .i64 10)]) (cs := [int .u8 45, int .i64 10]) nm zY z z<|?_
 refine mm T (vs := [(0, agg [int .u8 32, int .i64 10].toArray), (1, agg [int .u8 45, int .i64 10].toArray)]) (cs := [int .u8 32, int .i64 10, int .u8 45, int .i64 10]) su nm rfl (by decide) rfl rfl (fun t aJ V => ?_)
 obtain ⟨C, W, X, Y⟩ := Hp.publish (xs := ([(⟨32, 10⟩ : aA), (⟨45, 10⟩ : aA)] : List aA)) (n := 2) au V ⟨[int .u8 32, int .i64 10], _, rfl, (pc (x := (⟨32, 10⟩ : aA))), ⟨[int .u8 45, int .i64 10], _, rfl, (pc (x := (⟨45, 10⟩ : aA))), rfl⟩⟩ rfl
 refine bO (vs := [(0, slice (some ⟨t, 0, none⟩) ([(⟨32, 10⟩ : aA), (⟨45, 10⟩ : aA)] : List aA).length 2)]) (cs := [slice (some ⟨t, 0, none⟩) ([(⟨32, 10⟩ : aA), (⟨45, 10⟩ : aA)] : List aA).length 2, slice none 0 0]) Dm pl25 z z<|aM X Dm fun p aK Z=>fX Z 0 fw z z z z z z z fun aL aa=>nl<|U _ _ _<|sQ fun aN ab=>sr fun aO ad=>aj z<|nl<|ad _ _ _<|wb<|bK H fun f hC H=>?_
 refine aq (Q := fun e r ds w => e = .exit 0 ∧ ∃ (c : Option Addr) (d : Nat) (q : Gh), ds = [] ∧ C ≤ q ∧ Has [(0, pointer (some ⟨l, 0, none⟩)), (1, pointer (some ⟨p, 0, none⟩))] r ∧ Hp q (bx p [slice c f.length d, slice none 0 0] 25 :: bx l [slice none 0 0, slice none 0 0] 25 :: tk (slice c f.length d) 2 103 :: L) w ∧ f.length ≤ d ∧ Dat au q c f ∧ Own c d ∧ True) ?_ ?_
 refine have af:=Hp.pick 3 [0, 2, 1] aa z;aB fun I R=>?_
 refine gJ.partial_correctness (fun a h o => ∀ (i : Option Addr) (j : Nat) (s : Gh) (r : Rg) (w : World), C ≤ s → Has [(0, pointer (some ⟨l, 0, none⟩)), (1, pointer (some ⟨p, 0, none⟩)), (2, int .u8 a)] r → Hp s (bx p [slice i h.length j, slice none 0 0] 25 :: bx l [slice none 0 0, slice none 0 0] 25 :: tk (slice i h.length j) 2 103 :: L) w → h.length ≤ j → Dat au s i h → Own i j → o = f → I r [] w) ?_ 97 ([(⟨32, 10⟩ : aA), (⟨45, 10⟩ : aA)] : List aA) _ hC (some ⟨t, 0, none⟩) 2 _ _ _ gR ⟨rfl, rfl, rfl, tv⟩ af (show ([(⟨32, 10⟩ : aA), (⟨45, 10⟩ : aA)] : List aA).length ≤ 2 from Nat.le_of_ble_eq_true rfl) Y (Own.mk _ _ _) rfl
 intro _ ih a h o H i j s r aP D k u E F J ho
 rw [ho] at H; clear ho
 rw [k.eq]; clear k
 refine R _ _ _<|sQ fun aQ ag=>sr fun aR ah=>mv z<|eI z z<|nl<|ah _ _ _<|dC (a ≤ 104) (fun m=>?_) fun m=>?_
 refine yK m H fun H=>wt (bY m)<|ws<|ag _ _ _<|sQ fun aS ai=>wb<|ae<|fa kK z<|ld u 0 rd z z z<|mv z<|bO (vs := [(0, int .u8 a), (1, int .i64 10)]) (cs := [int .u8 a, int .i64 10]) nm zY z z<|?_
 refine mm u (vs := [(0, agg [int .u8 a, int .i64 10].toArray)]) (cs := [int .u8 a, int .i64 10]) su nm rfl (by decide) rfl rfl (fun aT aU K => ?_)
 refine iK H fun aV H=>?_
 refine lu (xs := h) (ys := [(⟨a, 10⟩ : aA)]) au K 3 su nm rfl rfl rfl rfl J E F (jF K 0 wO rfl rfl) ⟨[int .u8 a, int .i64 10], _, rfl, (pc (x := (⟨a, 10⟩ : aA))), rfl⟩ rfl (by simp only [List.length_cons, List.length_nil]; omega) (by simp only [List.length_cons, List.length_nil]; omega) (fun ak al aW aX am an ao ap ar => ?_)
 exact fa kK z<|fX ar 1 rd z z z z z z z fun aY av=>nl<|ai _ _ _<|ae<|mv z<|ba z z<|aj z<|nl<|have aw:=Hp.pick 4 [1, 2, 3] av z;ih _ _ _ H ak al _ _ _ (gT D am) ⟨z, z, z, tv⟩ aw ao ap an z
 refine nK m H fun H=>wf (bN m)<|wx<|?_
 cases H
 exact ⟨z, i, j, _, z, D, ⟨z, z, tv⟩, u, E, F, J, tv⟩
 rintro e r ds aZ ⟨rfl, c, d, q, rfl, ax, k, M, az, aC, a0, _⟩
 rw [k.eq]; clear k
 refine ab _ _ _<|sr fun a1 aD=>d9 M 0 fw z z z z<|fX M 1 fw z z z z z z z fun a2 O=>nl<|aD _ _ _<|wr<|have aE:=bW (P := Tryz.prog) O 1 (cs := [slice c f.length d, slice none 0 0]) (g := l) (o := 0) fw z z z;have aF:=Hp.pick 3 [] O z;?_
 cases H
 exact ⟨.inr z, z, _, ⟨_, _, _, z, z, aE, z⟩, c, d, none, 0, _, (gT W ax), aF, az, aC, (show ([] : List bX).length ≤ 0 from Nat.le_refl 0), (Dat.nil _ _ _), z⟩
theorem qi {ch G L w} (H : ig = some ch) (hI : Hp G L w) (bZ : Gl G) :
    Calls Tryz.prog 10 [].toArray w fun e w' => Hp G L w' ∧ e = .returned (bool ch) := by
 refine ac (N := 115) Tryz.func10 z z (Nat.le_of_ble_eq_true z)<|?_
 unfold ig at H
 refine sr fun K1 cw=>aj z<|nl<|cw _ _ _<|sr fun K3 cx=>bO (vs := [(0, int .i64 1), (1, int .i64 1)]) (cs := [int .i64 1, int .i64 1, slice none 0 0]) DU pl28 z z<|aM hI DU fun g6 dA cy=>fX cy 0 jT z z z z z z z fun dB cz=>nl<|cx _ _ _<|sr fun dD cA=>bO (vs := [(0, int .i64 1), (3, int .i64 30), (4, int .i64 20)]) (cs := [int .i64 1, int .i64 0, int .i64 0, int .i64 30, int .i64 20]) zi D3 z z<|?_
 refine mm cz (vs := [(0, agg [int .i64 1, int .i64 0, int .i64 0, int .i64 30, int .i64 20].toArray)]) (cs := [int .i64 1, int .i64 0, int .i64 0, int .i64 30, int .i64 20]) oh zi rfl (by decide) rfl rfl (fun a3 dE cB => ?_)
 obtain ⟨dF, bX, cD, cE⟩ := Hp.publish (xs := ([(⟨1, 0, 0, 30, 20⟩ : ab)] : List ab)) (n := 1) bm cB ⟨[int .i64 1, int .i64 0, int .i64 0, int .i64 30, int .i64 20], _, rfl, (rV (x := (⟨1, 0, 0, 30, 20⟩ : ab))), rfl⟩ rfl
 refine bO (vs := [(0, int .i64 1), (3, int .i64 45), (4, int .i64 20)]) (cs := [int .i64 1, int .i64 0, int .i64 0, int .i64 45, int .i64 20]) zi D3 z z<|?_
 refine mm cD (vs := [(0, agg [int .i64 1, int .i64 0, int .i64 0, int .i64 45, int .i64 20].toArray)]) (cs := [int .i64 1, int .i64 0, int .i64 0, int .i64 45, int .i64 20]) oh zi rfl (by decide) rfl rfl (fun aL dG cF => ?_)
 obtain ⟨b0, bW, cG, ci⟩ := Hp.publish (xs := ([(⟨1, 0, 0, 45, 20⟩ : ab)] : List ab)) (n := 1) bm cF ⟨[int .i64 1, int .i64 0, int .i64 0, int .i64 45, int .i64 20], _, rfl, (rV (x := (⟨1, 0, 0, 45, 20⟩ : ab))), rfl⟩ rfl
 refine aj z<|aj z<|nl<|cA _ _ _<|sQ fun dH cH=>bK H fun bo cI H=>xr H fun Z a1 a5 cJ H=>?_
 refine eC [0, 0, 0, 7, 15, 31, 31, 31, 63, 383, 1023] (fun D r w => (D 0 = false ∧ ∃ (G' : Gh), b0 ≤ G' ∧ ap [(1, pointer (some ⟨g6, 0, none⟩)), (2, slice (some ⟨a3, 0, none⟩) ([(⟨1, 0, 0, 30, 20⟩ : ab)] : List ab).length 1), (3, slice (some ⟨aL, 0, none⟩) ([(⟨1, 0, 0, 45, 20⟩ : ab)] : List ab).length 1)] [] [(1, 27, agg [int .i64 1, int .i64 1, slice none 0 0].toArray), (2, 28, slice (some ⟨a3, 0, none⟩) ([(⟨1, 0, 0, 30, 20⟩ : ab)] : List ab).length 1)] D r ∧ Hp G' (tk (slice (some ⟨aL, 0, none⟩) ([(⟨1, 0, 0, 45, 20⟩ : ab)] : List ab).length 1) 5 57 :: tk (slice (some ⟨a3, 0, none⟩) ([(⟨1, 0, 0, 30, 20⟩ : ab)] : List ab).length 1) 5 57 :: bx g6 [int .i64 1, int .i64 1, slice none 0 0] 28 :: L) w) ∨ (D 0 = true ∧ D 3 = false ∧ ∃ (M : Option Addr) (O : Nat) (P : Option Addr) (Q : Nat) (G' : Gh), b0 ≤ G' ∧ bo.Glyphs.length ≤ O ∧ Dat au G' M bo.Glyphs ∧ bo.Kerns.length ≤ Q ∧ Dat ay G' P bo.Kerns ∧ ap [(1, pointer (some ⟨g6, 0, none⟩)), (2, slice (some ⟨a3, 0, none⟩) ([(⟨1, 0, 0, 30, 20⟩ : ab)] : List ab).length 1), (3, slice (some ⟨aL, 0, none⟩) ([(⟨1, 0, 0, 45, 20⟩ : ab)] : List ab).length 1)] [] [(1, 27, agg [int .i64 1, int .i64 1, slice none 0 0].toArray), (2, 28, slice (some ⟨a3, 0, none⟩) ([(⟨1, 0, 0, 30, 20⟩ : ab)] : List ab).length 1), (0, 26, agg [slice M bo.Glyphs.length O, slice P bo.Kerns.length Q].toArray)] D r ∧ Hp G' (tk (slice (some ⟨aL, 0, none⟩) ([(⟨1, 0, 0, 45, 20⟩ : ab)] : List ab).length 1) 5 57 :: tk (slice (some ⟨a3, 0, none⟩) ([(⟨1, 0, 0, 30, 20⟩ : ab)] : List ab).length 1) 5 57 :: bx g6 [int .i64 1, int .i64 1, slice none 0 0] 28 :: L) w) ∨ (D 3 = true ∧ ∃ (M : Option Addr) (O : Nat) (P : Option Addr) (Q : Nat) (o : Option Addr) (p : Nat) (G' : Gh), b0 ≤ G' ∧ bo.Glyphs.length ≤ O ∧ Dat au G' M bo.Glyphs ∧ bo.Kerns.length ≤ Q ∧ Dat ay G' P bo.Kerns ∧ Z.length ≤ p ∧ Dat b6 G' o Z ∧ Own o p ∧ ap [(1, pointer (some ⟨g6, 0, none⟩)), (2, slice (some ⟨a3, 0, none⟩) ([(⟨1, 0, 0, 30, 20⟩ : ab)] : List ab).length 1), (3, slice (some ⟨aL, 0, none⟩) ([(⟨1, 0, 0, 45, 20⟩ : ab)] : List ab).length 1)] [] [(1, 27, agg [int .i64 1, int .i64 1, slice none 0 0].toArray), (2, 28, slice (some ⟨a3, 0, none⟩) ([(⟨1, 0, 0, 30, 20⟩ : ab)] : List ab).length 1), (0, 26, agg [slice M bo.Glyphs.length O, slice P bo.Kerns.length Q].toArray), (3, 29, tuple [slice o Z.length p, int .i64 a1, int .i64 a5].toArray), (4, 25, tuple [slice o Z.length p, int .i64 a1, int .i64 a5].toArray), (5, 30, slice o Z.length p), (6, 31, int .i64 a1), (7, 32, int .i64 a5), (8, 4, slice o Z.length p), (9, 5, int .i64 a1), (10, 6, int .i64 a5)] D r ∧ Hp G' (tk (slice o Z.length p) 5 50 :: tk (slice (some ⟨aL, 0, none⟩) ([(⟨1, 0, 0, 45, 20⟩ : ab)] : List ab).length 1) 5 57 :: tk (slice (some ⟨a3, 0, none⟩) ([(⟨1, 0, 0, 30, 20⟩ : ab)] : List ab).length 1) 5 57 :: bx g6 [int .i64 1, int .i64 1, slice none 0 0] 28 :: L) w)) jD z z ?_ ?_ ?_
 exact (.inl ⟨z, _, Gh.le_refl _, ap.start ⟨z, z, z, tv⟩ trivial, cG.drew⟩)
 refine ⟨?_, ?_, ?_, ?_, ?_, ?_, ?_, ?_, ?_, ?_, ?_, tv⟩
 rintro D r bB (⟨a, am, q, j, B⟩ | ⟨b, a, M, O, P, Q, am, q, ar, av, aw, ax, j, B⟩ | ⟨b, M, O, P, Q, o, p, am, q, ar, av, aw, ax, a7, a8, bb, j, B⟩) d c f
 obtain ⟨k, rfl⟩ := Has.ex (r := r) cN
 refine fU (vs := []) Ai z z (gi cI B)<|?_
 rintro _ dI ⟨M, O, P, Q, dJ, cL, cM, ar, av, aw, ax, rfl⟩
 refine ⟨_, rfl, ?_⟩
 exact nl ⟨z, (.inr (.inl ⟨z, (f 3 z), M, O, P, Q, _, (gT q cL), ar, av, aw, ax, (ap.step (ap.more (new := [(0, 26, agg [slice M bo.Glyphs.length O, slice P bo.Kerns.length Q].toArray)]) j (List.forall_mem_cons.2 ⟨d, (fun _ h => nomatch h)⟩)) d z z z z), cM⟩))⟩
 cases d.symm.trans b
 cases (f 3 rfl).symm.trans b
 rintro D r bB (⟨a, am, q, j, B⟩ | ⟨b, a, M, O, P, Q, am, q, ar, av, aw, ax, j, B⟩ | ⟨b, M, O, P, Q, o, p, am, q, ar, av, aw, ax, a7, a8, bb, j, B⟩) d c f
 obtain ⟨k, rfl⟩ := Has.ex (cC (j.ins.get 0 rfl) cN)
 exact d9 B 2 jT z z z z<|nl ⟨z, (.inl ⟨a, _, q, (ap.step j d z z z z), B⟩)⟩
 obtain ⟨k, rfl⟩ := Has.ex (cC (j.ins.get 0 rfl) cN)
 exact d9 B 2 jT z z z z<|nl ⟨z, (.inr (.inl ⟨b, a, M, O, P, Q, _, q, ar, av, aw, ax, (ap.step j d z z z z), B⟩))⟩
 cases (f 3 rfl).symm.trans b
 rintro D r bB (⟨a, am, q, j, B⟩ | ⟨b, a, M, O, P, Q, am, q, ar, av, aw, ax, j, B⟩ | ⟨b, M, O, P, Q, o, p, am, q, ar, av, aw, ax, a7, a8, bb, j, B⟩) d c f
 obtain ⟨k, rfl⟩ := Has.ex (cC (j.ins.get 1 rfl) cN)
 exact mv z<|nl ⟨z, (.inl ⟨a, _, q, (ap.step j d z z z z), B⟩)⟩
 obtain ⟨k, rfl⟩ := Has.ex (cC (j.ins.get 1 rfl) cN)
 exact mv z<|nl ⟨z, (.inr (.inl ⟨b, a, M, O, P, Q, _, q, ar, av, aw, ax, (ap.step j d z z z z), B⟩))⟩
 cases (f 3 rfl).symm.trans b
 rintro D r bB (⟨a, am, q, j, B⟩ | ⟨b, a, M, O, P, Q, am, q, ar, av, aw, ax, j, B⟩ | ⟨b, M, O, P, Q, o, p, am, q, ar, av, aw, ax, a7, a8, bb, j, B⟩) d c f
 cases (c 0 rfl).symm.trans a
 obtain ⟨k, rfl⟩ := Has.ex (cC (j.get 2 rfl (c 0 rfl)) (cC (j.get 0 rfl (c 1 rfl)) (cC (j.get 1 rfl (c 2 rfl)) cN)))
 refine fU (vs := [agg [slice M bo.Glyphs.length O, slice P bo.Kerns.length Q].toArray, agg [int .i64 1, int .i64 1, slice none 0 0].toArray, string (⟨#[97, 98, 32, 99, 100, 32, 101, 102]⟩ : ByteArray), int .i64 100, int .i64 12, int .i64 0, int .i64 0, int .i64 50, int .i64 0, slice (some ⟨a3, 0, none⟩) ([(⟨1, 0, 0, 30, 20⟩ : ab)] : List ab).length 1]) zQ z z (ib (a10 := (⟨1, 1, ([] : List ByteArray)⟩ : ak)) (a22 := ([(⟨1, 0, 0, 30, 20⟩ : ab)] : List ab)) cJ B ar av aw ax (show ([] : List ByteArray).length ≤ 0 from Nat.le_refl 0) (Dat.nil _ _ _) (show ([(⟨1, 0, 0, 30, 20⟩ : ab)] : List ab).length ≤ 1 from Nat.le_of_ble_eq_true z) (Dat.mono (gT bW q) cE) (bZ.mono (gT (gT bX bW) q)))<|?_
 rintro _ dK ⟨o, p, dL, b1, cO, a7, a8, bb, rfl⟩
 refine ⟨_, rfl, ?_⟩
 exact nl ⟨z, (.inr (.inr ⟨z, M, O, P, Q, o, p, _, (gT q b1), ar, (Dat.mono b1 av), aw, (Dat.mono b1 ax), a7, a8, bb, (ap.step (ap.more (new := [(3, 29, tuple [slice o Z.length p, int .i64 a1, int .i64 a5].toArray), (4, 25, tuple [slice o Z.length p, int .i64 a1, int .i64 a5].toArray), (5, 30, slice o Z.length p), (6, 31, int .i64 a1), (7, 32, int .i64 a5), (8, 4, slice o Z.length p), (9, 5, int .i64 a1), (10, 6, int .i64 a5)]) j (List.forall_mem_cons.2 ⟨d, (List.forall_mem_cons.2 ⟨f 4 z, (List.forall_mem_cons.2 ⟨f 5 z, (List.forall_mem_cons.2 ⟨f 6 z, (List.forall_mem_cons.2 ⟨f 7 z, (List.forall_mem_cons.2 ⟨f 8 z, (List.forall_mem_cons.2 ⟨f 9 z, (List.forall_mem_cons.2 ⟨f 10 z, (fun _ h => nomatch h)⟩)⟩)⟩)⟩)⟩)⟩)⟩)⟩)) d z z z z), cO⟩))⟩
 cases d.symm.trans b
 rintro D r bB (⟨a, am, q, j, B⟩ | ⟨b, a, M, O, P, Q, am, q, ar, av, aw, ax, j, B⟩ | ⟨b, M, O, P, Q, o, p, am, q, ar, av, aw, ax, a7, a8, bb, j, B⟩) d c f
 cases (c 0 rfl).symm.trans a
 cases (c 3 rfl).symm.trans a
 obtain ⟨k, rfl⟩ := Has.ex (cC (j.get 3 rfl (c 3 rfl)) cN)
 exact mv z<|nl ⟨z, (.inr (.inr ⟨b, M, O, P, Q, o, p, _, q, ar, av, aw, ax, a7, a8, bb, (ap.step j d z z z z), B⟩))⟩
 rintro D r bB (⟨a, am, q, j, B⟩ | ⟨b, a, M, O, P, Q, am, q, ar, av, aw, ax, j, B⟩ | ⟨b, M, O, P, Q, o, p, am, q, ar, av, aw, ax, a7, a8, bb, j, B⟩) d c f
 cases (c 0 rfl).symm.trans a
 cases (c 3 rfl).symm.trans a
 obtain ⟨k, rfl⟩ := Has.ex (cC (j.get 4 rfl (c 4 rfl)) cN)
 exact cK z z<|nl ⟨z, (.inr (.inr ⟨b, M, O, P, Q, o, p, _, q, ar, av, aw, ax, a7, a8, bb, (ap.step j d z z z z), B⟩))⟩
 rintro D r bB (⟨a, am, q, j, B⟩ | ⟨b, a, M, O, P, Q, am, q, ar, av, aw, ax, j, B⟩ | ⟨b, M, O, P, Q, o, p, am, q, ar, av, aw, ax, a7, a8, bb, j, B⟩) d c f
 cases (c 0 rfl).symm.trans a
 cases (c 3 rfl).symm.trans a
 obtain ⟨k, rfl⟩ := Has.ex (cC (j.get 4 rfl (c 4 rfl)) cN)
 exact cK z z<|nl ⟨z, (.inr (.inr ⟨b, M, O, P, Q, o, p, _, q, ar, av, aw, ax, a7, a8, bb, (ap.step j d z z z z), B⟩))⟩
 rintro D r bB (⟨a, am, q, j, B⟩ | ⟨b, a, M, O, P, Q, am, q, ar, av, aw, ax, j, B⟩ | ⟨b, M, O, P, Q, o, p, am, q, ar, av, aw, ax, a7, a8, bb, j, B⟩) d c f
 cases (c 0 rfl).symm.trans a
 cases (c 3 rfl).symm.trans a
 obtain ⟨k, rfl⟩ := Has.ex (cC (j.get 4 rfl (c 4 rfl)) cN)
 exact cK z z<|nl ⟨z, (.inr (.inr ⟨b, M, O, P, Q, o, p, _, q, ar, av, aw, ax, a7, a8, bb, (ap.step j d z z z z), B⟩))⟩
 rintro D r bB (⟨a, am, q, j, B⟩ | ⟨b, a, M, O, P, Q, am, q, ar, av, aw, ax, j, B⟩ | ⟨b, M, O, P, Q, o, p, am, q, ar, av, aw, ax, a7, a8, bb, j, B⟩) d c f
 cases (c 0 rfl).symm.trans a
 cases (c 3 rfl).symm.trans a
 obtain ⟨k, rfl⟩ := Has.ex (cC (j.get 5 rfl (c 5 rfl)) cN)
 exact aj z<|nl ⟨z, (.inr (.inr ⟨b, M, O, P, Q, o, p, _, q, ar, av, aw, ax, a7, a8, bb, (ap.step j d z z z z), B⟩))⟩
 rintro D r bB (⟨a, am, q, j, B⟩ | ⟨b, a, M, O, P, Q, am, q, ar, av, aw, ax, j, B⟩ | ⟨b, M, O, P, Q, o, p, am, q, ar, av, aw, ax, a7, a8, bb, j, B⟩) d c f
 cases (c 0 rfl).symm.trans a
 cases (c 3 rfl).symm.trans a
 obtain ⟨k, rfl⟩ := Has.ex (cC (j.get 6 rfl (c 6 rfl)) cN)
 exact aj z<|nl ⟨z, (.inr (.inr ⟨b, M, O, P, Q, o, p, _, q, ar, av, aw, ax, a7, a8, bb, (ap.step j d z z z z), B⟩))⟩
 rintro D r bB (⟨a, am, q, j, B⟩ | ⟨b, a, M, O, P, Q, am, q, ar, av, aw, ax, j, B⟩ | ⟨b, M, O, P, Q, o, p, am, q, ar, av, aw, ax, a7, a8, bb, j, B⟩) d c f
 cases (c 0 rfl).symm.trans a
 cases (c 3 rfl).symm.trans a
 obtain ⟨k, rfl⟩ := Has.ex (cC (j.get 7 rfl (c 7 rfl)) cN)
 exact aj z<|nl ⟨z, (.inr (.inr ⟨b, M, O, P, Q, o, p, _, q, ar, av, aw, ax, a7, a8, bb, (ap.step j d z z z z), B⟩))⟩
 intro D r bB a0 hR
 rcases hR with ⟨a, am, q, j, B⟩ | ⟨b, a, M, O, P, Q, am, q, ar, av, aw, ax, j, B⟩ | ⟨b, M, O, P, Q, o, p, am, q, ar, av, aw, ax, a7, a8, bb, j, B⟩
 cases (a0 0 (Nat.le_of_ble_eq_true rfl)).symm.trans a
 cases (a0 3 (Nat.le_of_ble_eq_true rfl)).symm.trans a
 obtain ⟨k, rfl⟩ := Has.ex (cC (j.ins.get 0 rfl) (cC (j.ins.get 2 rfl) (cC (j.get 8 rfl (a0 8 (Nat.le_of_ble_eq_true rfl))) (cC (j.get 9 rfl (a0 9 (Nat.le_of_ble_eq_true rfl))) (cC (j.get 10 rfl (a0 10 (Nat.le_of_ble_eq_true rfl))) cN)))))
 refine cH _ _ _<|sQ fun dM cP=>bK H fun bp cQ H=>xr H fun az a2 bn cR H=>?_
 refine eC [0, 0, 0, 7, 15, 31, 31, 31, 63, 383, 1023] (fun D r w => (D 0 = false ∧ ∃ (G' : Gh), am ≤ G' ∧ ap [(1, pointer (some ⟨g6, 0, none⟩)), (3, slice (some ⟨aL, 0, none⟩) ([(⟨1, 0, 0, 45, 20⟩ : ab)] : List ab).length 1), (4, slice o Z.length p), (5, int .i64 a1), (6, int .i64 a5)] [] [(1, 35, agg [int .i64 1, int .i64 1, slice none 0 0].toArray), (2, 36, slice (some ⟨aL, 0, none⟩) ([(⟨1, 0, 0, 45, 20⟩ : ab)] : List ab).length 1)] D r ∧ Hp G' (tk (slice o Z.length p) 5 50 :: tk (slice (some ⟨aL, 0, none⟩) ([(⟨1, 0, 0, 45, 20⟩ : ab)] : List ab).length 1) 5 57 :: tk (slice (some ⟨a3, 0, none⟩) ([(⟨1, 0, 0, 30, 20⟩ : ab)] : List ab).length 1) 5 57 :: bx g6 [int .i64 1, int .i64 1, slice none 0 0] 28 :: L) w) ∨ (D 0 = true ∧ D 3 = false ∧ ∃ (R : Option Addr) (S : Nat) (T : Option Addr) (U : Nat) (G' : Gh), am ≤ G' ∧ bp.Glyphs.length ≤ S ∧ Dat au G' R bp.Glyphs ∧ bp.Kerns.length ≤ U ∧ Dat ay G' T bp.Kerns ∧ ap [(1, pointer (some ⟨g6, 0, none⟩)), (3, slice (some ⟨aL, 0, none⟩) ([(⟨1, 0, 0, 45, 20⟩ : ab)] : List ab).length 1), (4, slice o Z.length p), (5, int .i64 a1), (6, int .i64 a5)] [] [(1, 35, agg [int .i64 1, int .i64 1, slice none 0 0].toArray), (2, 36, slice (some ⟨aL, 0, none⟩) ([(⟨1, 0, 0, 45, 20⟩ : ab)] : List ab).length 1), (0, 34, agg [slice R bp.Glyphs.length S, slice T bp.Kerns.length U].toArray)] D r ∧ Hp G' (tk (slice o Z.length p) 5 50 :: tk (slice (some ⟨aL, 0, none⟩) ([(⟨1, 0, 0, 45, 20⟩ : ab)] : List ab).length 1) 5 57 :: tk (slice (some ⟨a3, 0, none⟩) ([(⟨1, 0, 0, 30, 20⟩ : ab)] : List ab).length 1) 5 57 :: bx g6 [int .i64 1, int .i64 1, slice none 0 0] 28 :: L) w) ∨ (D 3 = true ∧ ∃ (R : Option Addr) (S : Nat) (T : Option Addr) (U : Nat) (s : Option Addr) (t : Nat) (G' : Gh), am ≤ G' ∧ bp.Glyphs.length ≤ S ∧ Dat au G' R bp.Glyphs ∧ bp.Kerns.length ≤ U ∧ Dat ay G' T bp.Kerns ∧ az.length ≤ t ∧ Dat b6 G' s az ∧ Own s t ∧ ap [(1, pointer (some ⟨g6, 0, none⟩)), (3, slice (some ⟨aL, 0, none⟩) ([(⟨1, 0, 0, 45, 20⟩ : ab)] : List ab).length 1), (4, slice o Z.length p), (5, int .i64 a1), (6, int .i64 a5)] [] [(1, 35, agg [int .i64 1, int .i64 1, slice none 0 0].toArray), (2, 36, slice (some ⟨aL, 0, none⟩) ([(⟨1, 0, 0, 45, 20⟩ : ab)] : List ab).length 1), (0, 34, agg [slice R bp.Glyphs.length S, slice T bp.Kerns.length U].toArray), (3, 37, tuple [slice s az.length t, int .i64 a2, int .i64 bn].toArray), (4, 33, tuple [slice s az.length t, int .i64 a2, int .i64 bn].toArray), (5, 38, slice s az.length t), (6, 39, int .i64 a2), (7, 40, int .i64 bn), (8, 7, slice s az.length t), (9, 8, int .i64 a2), (10, 9, int .i64 bn)] D r ∧ Hp G' (tk (slice s az.length t) 5 50 :: tk (slice o Z.length p) 5 50 :: tk (slice (some ⟨aL, 0, none⟩) ([(⟨1, 0, 0, 45, 20⟩ : ab)] : List ab).length 1) 5 57 :: tk (slice (some ⟨a3, 0, none⟩) ([(⟨1, 0, 0, 30, 20⟩ : ab)] : List ab).length 1) 5 57 :: bx g6 [int .i64 1, int .i64 1, slice none 0 0] 28 :: L) w)) jD z z ?_ ?_ ?_
 exact (.inl ⟨z, _, Gh.le_refl _, ap.start ⟨z, z, z, z, z, tv⟩ trivial, B.drew⟩)
 refine ⟨?_, ?_, ?_, ?_, ?_, ?_, ?_, ?_, ?_, ?_, ?_, tv⟩
 rintro D r bC (⟨a, ao, u, i, C⟩ | ⟨b, a, R, S, T, U, ao, u, aA, aB, aC, aD, i, C⟩ | ⟨b, R, S, T, U, s, t, ao, u, aA, aB, aC, aD, a9, ba, bc, i, C⟩) d c f
 obtain ⟨k, rfl⟩ := Has.ex (r := r) cN
 refine fU (vs := []) Ai z z (gi cQ C)<|?_
 rintro _ dN ⟨R, S, T, U, dO, cS, cT, aA, aB, aC, aD, rfl⟩
 refine ⟨_, rfl, ?_⟩
 exact nl ⟨z, (.inr (.inl ⟨z, (f 3 z), R, S, T, U, _, (gT u cS), aA, aB, aC, aD, (ap.step (ap.more (new := [(0, 34, agg [slice R bp.Glyphs.length S, slice T bp.Kerns.length U].toArray)]) i (List.forall_mem_cons.2 ⟨d, (fun _ h => nomatch h)⟩)) d z z z z), cT⟩))⟩
 cases d.symm.trans b
 cases (f 3 rfl).symm.trans b
 rintro D r bC (⟨a, ao, u, i, C⟩ | ⟨b, a, R, S, T, U, ao, u, aA, aB, aC, aD, i, C⟩ | ⟨b, R, S, T, U, s, t, ao, u, aA, aB, aC, aD, a9, ba, bc, i, C⟩) d c f
 obtain ⟨k, rfl⟩ := Has.ex (cC (i.ins.get 0 rfl) cN)
 exact d9 C 3 jT z z z z<|nl ⟨z, (.inl ⟨a, _, u, (ap.step i d z z z z), C⟩)⟩
 obtain ⟨k, rfl⟩ := Has.ex (cC (i.ins.get 0 rfl) cN)
 exact d9 C 3 jT z z z z<|nl ⟨z, (.inr (.inl ⟨b, a, R, S, T, U, _, u, aA, aB, aC, aD, (ap.step i d z z z z), C⟩))⟩
 cases (f 3 rfl).symm.trans b
 rintro D r bC (⟨a, ao, u, i, C⟩ | ⟨b, a, R, S, T, U, ao, u, aA, aB, aC, aD, i, C⟩ | ⟨b, R, S, T, U, s, t, ao, u, aA, aB, aC, aD, a9, ba, bc, i, C⟩) d c f
 obtain ⟨k, rfl⟩ := Has.ex (cC (i.ins.get 1 rfl) cN)
 exact mv z<|nl ⟨z, (.inl ⟨a, _, u, (ap.step i d z z z z), C⟩)⟩
 obtain ⟨k, rfl⟩ := Has.ex (cC (i.ins.get 1 rfl) cN)
 exact mv z<|nl ⟨z, (.inr (.inl ⟨b, a, R, S, T, U, _, u, aA, aB, aC, aD, (ap.step i d z z z z), C⟩))⟩
 cases (f 3 rfl).symm.trans b
 rintro D r bC (⟨a, ao, u, i, C⟩ | ⟨b, a, R, S, T, U, ao, u, aA, aB, aC, aD, i, C⟩ | ⟨b, R, S, T, U, s, t, ao, u, aA, aB, aC, aD, a9, ba, bc, i, C⟩) d c f
 cases (c 0 rfl).symm.trans a
 obtain ⟨k, rfl⟩ := Has.ex (cC (i.get 2 rfl (c 0 rfl)) (cC (i.get 0 rfl (c 1 rfl)) (cC (i.get 1 rfl (c 2 rfl)) cN)))
 refine fU (vs := [agg [slice R bp.Glyphs.length S, slice T bp.Kerns.length U].toArray, agg [int .i64 1, int .i64 1, slice none 0 0].toArray, string (⟨#[97, 98, 32, 99, 100, 32, 101, 102]⟩ : ByteArray), int .i64 100, int .i64 12, int .i64 0, int .i64 0, int .i64 50, int .i64 0, slice (some ⟨aL, 0, none⟩) ([(⟨1, 0, 0, 45, 20⟩ : ab)] : List ab).length 1]) zQ z z (ib (a10 := (⟨1, 1, ([] : List ByteArray)⟩ : ak)) (a22 := ([(⟨1, 0, 0, 45, 20⟩ : ab)] : List ab)) cR C aA aB aC aD (show ([] : List ByteArray).length ≤ 0 from Nat.le_refl 0) (Dat.nil _ _ _) (show ([(⟨1, 0, 0, 45, 20⟩ : ab)] : List ab).length ≤ 1 from Nat.le_of_ble_eq_true z) (Dat.mono (gT q u) ci) (bZ.mono (gT (gT (gT bX bW) q) u)))<|?_
 rintro _ dP ⟨s, t, dQ, b2, cU, a9, ba, bc, rfl⟩
 refine ⟨_, rfl, ?_⟩
 exact nl ⟨z, (.inr (.inr ⟨z, R, S, T, U, s, t, _, (gT u b2), aA, (Dat.mono b2 aB), aC, (Dat.mono b2 aD), a9, ba, bc, (ap.step (ap.more (new := [(3, 37, tuple [slice s az.length t, int .i64 a2, int .i64 bn].toArray), (4, 33, tuple [slice s az.length t, int .i64 a2, int .i64 bn].toArray), (5, 38, slice s az.length t), (6, 39, int .i64 a2), (7, 40, int .i64 bn), (8, 7, slice s az.length t), (9, 8, int .i64 a2), (10, 9, int .i64 bn)]) i (List.forall_mem_cons.2 ⟨d, (List.forall_mem_cons.2 ⟨f 4 z, (List.forall_mem_cons.2 ⟨f 5 z, (List.forall_mem_cons.2 ⟨f 6 z, (List.forall_mem_cons.2 ⟨f 7 z, (List.forall_mem_cons.2 ⟨f 8 z, (List.forall_mem_cons.2 ⟨f 9 z, (List.forall_mem_cons.2 ⟨f 10 z, (fun _ h => nomatch h)⟩)⟩)⟩)⟩)⟩)⟩)⟩)⟩)) d z z z z), cU⟩))⟩
 cases d.symm.trans b
 rintro D r bC (⟨a, ao, u, i, C⟩ | ⟨b, a, R, S, T, U, ao, u, aA, aB, aC, aD, i, C⟩ | ⟨b, R, S, T, U, s, t, ao, u, aA, aB, aC, aD, a9, ba, bc, i, C⟩) d c f
 cases (c 0 rfl).symm.trans a
 cases (c 3 rfl).symm.trans a
 obtain ⟨k, rfl⟩ := Has.ex (cC (i.get 3 rfl (c 3 rfl)) cN)
 exact mv z<|nl ⟨z, (.inr (.inr ⟨b, R, S, T, U, s, t, _, u, aA, aB, aC, aD, a9, ba, bc, (ap.step i d z z z z), C⟩))⟩
 rintro D r bC (⟨a, ao, u, i, C⟩ | ⟨b, a, R, S, T, U, ao, u, aA, aB, aC, aD, i, C⟩ | ⟨b, R, S, T, U, s, t, ao, u, aA, aB, aC, aD, a9, ba, bc, i, C⟩) d c f
 cases (c 0 rfl).symm.trans a
 cases (c 3 rfl).symm.trans a
 obtain ⟨k, rfl⟩ := Has.ex (cC (i.get 4 rfl (c 4 rfl)) cN)
 exact cK z z<|nl ⟨z, (.inr (.inr ⟨b, R, S, T, U, s, t, _, u, aA, aB, aC, aD, a9, ba, bc, (ap.step i d z z z z), C⟩))⟩
 rintro D r bC (⟨a, ao, u, i, C⟩ | ⟨b, a, R, S, T, U, ao, u, aA, aB, aC, aD, i, C⟩ | ⟨b, R, S, T, U, s, t, ao, u, aA, aB, aC, aD, a9, ba, bc, i, C⟩) d c f
 cases (c 0 rfl).symm.trans a
 cases (c 3 rfl).symm.trans a
 obtain ⟨k, rfl⟩ := Has.ex (cC (i.get 4 rfl (c 4 rfl)) cN)
 exact cK z z<|nl ⟨z, (.inr (.inr ⟨b, R, S, T, U, s, t, _, u, aA, aB, aC, aD, a9, ba, bc, (ap.step i d z z z z), C⟩))⟩
 rintro D r bC (⟨a, ao, u, i, C⟩ | ⟨b, a, R, S, T, U, ao, u, aA, aB, aC, aD, i, C⟩ | ⟨b, R, S, T, U, s, t, ao, u, aA, aB, aC, aD, a9, ba, bc, i, C⟩) d c f
 cases (c 0 rfl).symm.trans a
 cases (c 3 rfl).symm.trans a
 obtain ⟨k, rfl⟩ := Has.ex (cC (i.get 4 rfl (c 4 rfl)) cN)
 exact cK z z<|nl ⟨z, (.inr (.inr ⟨b, R, S, T, U, s, t, _, u, aA, aB, aC, aD, a9, ba, bc, (ap.step i d z z z z), C⟩))⟩
 rintro D r bC (⟨a, ao, u, i, C⟩ | ⟨b, a, R, S, T, U, ao, u, aA, aB, aC, aD, i, C⟩ | ⟨b, R, S, T, U, s, t, ao, u, aA, aB, aC, aD, a9, ba, bc, i, C⟩) d c f
 cases (c 0 rfl).symm.trans a
 cases (c 3 rfl).symm.trans a
 obtain ⟨k, rfl⟩ := Has.ex (cC (i.get 5 rfl (c 5 rfl)) cN)
 exact aj z<|nl ⟨z, (.inr (.inr ⟨b, R, S, T, U, s, t, _, u, aA, aB, aC, aD, a9, ba, bc, (ap.step i d z z z z), C⟩))⟩
 rintro D r bC (⟨a, ao, u, i, C⟩ | ⟨b, a, R, S, T, U, ao, u, aA, aB, aC, aD, i, C⟩ | ⟨b, R, S, T, U, s, t, ao, u, aA, aB, aC, aD, a9, ba, bc, i, C⟩) d c f
 cases (c 0 rfl).symm.trans a
 cases (c 3 rfl).symm.trans a
 obtain ⟨k, rfl⟩ := Has.ex (cC (i.get 6 rfl (c 6 rfl)) cN)
 exact aj z<|nl ⟨z, (.inr (.inr ⟨b, R, S, T, U, s, t, _, u, aA, aB, aC, aD, a9, ba, bc, (ap.step i d z z z z), C⟩))⟩
 rintro D r bC (⟨a, ao, u, i, C⟩ | ⟨b, a, R, S, T, U, ao, u, aA, aB, aC, aD, i, C⟩ | ⟨b, R, S, T, U, s, t, ao, u, aA, aB, aC, aD, a9, ba, bc, i, C⟩) d c f
 cases (c 0 rfl).symm.trans a
 cases (c 3 rfl).symm.trans a
 obtain ⟨k, rfl⟩ := Has.ex (cC (i.get 7 rfl (c 7 rfl)) cN)
 exact aj z<|nl ⟨z, (.inr (.inr ⟨b, R, S, T, U, s, t, _, u, aA, aB, aC, aD, a9, ba, bc, (ap.step i d z z z z), C⟩))⟩
 intro D r bC a0 hR
 rcases hR with ⟨a, ao, u, i, C⟩ | ⟨b, a, R, S, T, U, ao, u, aA, aB, aC, aD, i, C⟩ | ⟨b, R, S, T, U, s, t, ao, u, aA, aB, aC, aD, a9, ba, bc, i, C⟩
 cases (a0 0 (Nat.le_of_ble_eq_true rfl)).symm.trans a
 cases (a0 3 (Nat.le_of_ble_eq_true rfl)).symm.trans a
 obtain ⟨k, rfl⟩ := Has.ex (cC (i.ins.get 0 rfl) (cC (i.ins.get 1 rfl) (cC (i.ins.get 2 rfl) (cC (i.ins.get 3 rfl) (cC (i.ins.get 4 rfl) (cC (i.get 8 rfl (a0 8 (Nat.le_of_ble_eq_true rfl))) (cC (i.get 9 rfl (a0 9 (Nat.le_of_ble_eq_true rfl))) (cC (i.get 10 rfl (a0 10 (Nat.le_of_ble_eq_true rfl))) cN))))))))
 refine cP _ _ _<|sQ fun dR cV=>bK H fun bq cW H=>xr H fun aW a4 bt cX H=>?_
 refine eC [0, 0, 0, 7, 15, 31, 31, 31, 63, 383, 1023] (fun D r w => (D 0 = false ∧ ∃ (G' : Gh), ao ≤ G' ∧ ap [(1, pointer (some ⟨g6, 0, none⟩)), (3, slice (some ⟨aL, 0, none⟩) ([(⟨1, 0, 0, 45, 20⟩ : ab)] : List ab).length 1), (4, slice o Z.length p), (5, int .i64 a1), (6, int .i64 a5), (7, slice s az.length t), (8, int .i64 a2), (9, int .i64 bn)] [] [(1, 43, agg [int .i64 1, int .i64 1, slice none 0 0].toArray), (2, 44, slice (some ⟨aL, 0, none⟩) ([(⟨1, 0, 0, 45, 20⟩ : ab)] : List ab).length 1)] D r ∧ Hp G' (tk (slice s az.length t) 5 50 :: tk (slice o Z.length p) 5 50 :: tk (slice (some ⟨aL, 0, none⟩) ([(⟨1, 0, 0, 45, 20⟩ : ab)] : List ab).length 1) 5 57 :: tk (slice (some ⟨a3, 0, none⟩) ([(⟨1, 0, 0, 30, 20⟩ : ab)] : List ab).length 1) 5 57 :: bx g6 [int .i64 1, int .i64 1, slice none 0 0] 28 :: L) w) ∨ (D 0 = true ∧ D 3 = false ∧ ∃ (V : Option Addr) (W : Nat) (X : Option Addr) (Y : Nat) (G' : Gh), ao ≤ G' ∧ bq.Glyphs.length ≤ W ∧ Dat au G' V bq.Glyphs ∧ bq.Kerns.length ≤ Y ∧ Dat ay G' X bq.Kerns ∧ ap [(1, pointer (some ⟨g6, 0, none⟩)), (3, slice (some ⟨aL, 0, none⟩) ([(⟨1, 0, 0, 45, 20⟩ : ab)] : List ab).length 1), (4, slice o Z.length p), (5, int .i64 a1), (6, int .i64 a5), (7, slice s az.length t), (8, int .i64 a2), (9, int .i64 bn)] [] [(1, 43, agg [int .i64 1, int .i64 1, slice none 0 0].toArray), (2, 44, slice (some ⟨aL, 0, none⟩) ([(⟨1, 0, 0, 45, 20⟩ : ab)] : List ab).length 1), (0, 42, agg [slice V bq.Glyphs.length W, slice X bq.Kerns.length Y].toArray)] D r ∧ Hp G' (tk (slice s az.length t) 5 50 :: tk (slice o Z.length p) 5 50 :: tk (slice (some ⟨aL, 0, none⟩) ([(⟨1, 0, 0, 45, 20⟩ : ab)] : List ab).length 1) 5 57 :: tk (slice (some ⟨a3, 0, none⟩) ([(⟨1, 0, 0, 30, 20⟩ : ab)] : List ab).length 1) 5 57 :: bx g6 [int .i64 1, int .i64 1, slice none 0 0] 28 :: L) w) ∨ (D 3 = true ∧ ∃ (V : Option Addr) (W : Nat) (X : Option Addr) (Y : Nat) (y : Option Addr) (A : Nat) (G' : Gh), ao ≤ G' ∧ bq.Glyphs.length ≤ W ∧ Dat au G' V bq.Glyphs ∧ bq.Kerns.length ≤ Y ∧ Dat ay G' X bq.Kerns ∧ aW.length ≤ A ∧ Dat b6 G' y aW ∧ Own y A ∧ ap [(1, pointer (some ⟨g6, 0, none⟩)), (3, slice (some ⟨aL, 0, none⟩) ([(⟨1, 0, 0, 45, 20⟩ : ab)] : List ab).length 1), (4, slice o Z.length p), (5, int .i64 a1), (6, int .i64 a5), (7, slice s az.length t), (8, int .i64 a2), (9, int .i64 bn)] [] [(1, 43, agg [int .i64 1, int .i64 1, slice none 0 0].toArray), (2, 44, slice (some ⟨aL, 0, none⟩) ([(⟨1, 0, 0, 45, 20⟩ : ab)] : List ab).length 1), (0, 42, agg [slice V bq.Glyphs.length W, slice X bq.Kerns.length Y].toArray), (3, 45, tuple [slice y aW.length A, int .i64 a4, int .i64 bt].toArray), (4, 41, tuple [slice y aW.length A, int .i64 a4, int .i64 bt].toArray), (5, 46, slice y aW.length A), (6, 47, int .i64 a4), (7, 48, int .i64 bt), (8, 10, slice y aW.length A), (9, 11, int .i64 a4), (10, 12, int .i64 bt)] D r ∧ Hp G' (tk (slice y aW.length A) 5 50 :: tk (slice s az.length t) 5 50 :: tk (slice o Z.length p) 5 50 :: tk (slice (some ⟨aL, 0, none⟩) ([(⟨1, 0, 0, 45, 20⟩ : ab)] : List ab).length 1) 5 57 :: tk (slice (some ⟨a3, 0, none⟩) ([(⟨1, 0, 0, 30, 20⟩ : ab)] : List ab).length 1) 5 57 :: bx g6 [int .i64 1, int .i64 1, slice none 0 0] 28 :: L) w)) jD z z ?_ ?_ ?_
 exact (.inl ⟨z, _, Gh.le_refl _, ap.start ⟨z, z, z, z, z, z, z, z, tv⟩ trivial, C.drew⟩)
 refine ⟨?_, ?_, ?_, ?_, ?_, ?_, ?_, ?_, ?_, ?_, ?_, tv⟩
 rintro D r bD (⟨a, aq, v, g, E⟩ | ⟨b, a, V, W, X, Y, aq, v, aE, aF, aG, aH, g, E⟩ | ⟨b, V, W, X, Y, y, A, aq, v, aE, aF, aG, aH, bd, be, bf, g, E⟩) d c f
 obtain ⟨k, rfl⟩ := Has.ex (r := r) cN
 refine fU (vs := []) Ai z z (gi cW E)<|?_
 rintro _ dS ⟨V, W, X, Y, dT, cY, cZ, aE, aF, aG, aH, rfl⟩
 refine ⟨_, rfl, ?_⟩
 exact nl ⟨z, (.inr (.inl ⟨z, (f 3 z), V, W, X, Y, _, (gT v cY), aE, aF, aG, aH, (ap.step (ap.more (new := [(0, 42, agg [slice V bq.Glyphs.length W, slice X bq.Kerns.length Y].toArray)]) g (List.forall_mem_cons.2 ⟨d, (fun _ h => nomatch h)⟩)) d z z z z), cZ⟩))⟩
 cases d.symm.trans b
 cases (f 3 rfl).symm.trans b
 rintro D r bD (⟨a, aq, v, g, E⟩ | ⟨b, a, V, W, X, Y, aq, v, aE, aF, aG, aH, g, E⟩ | ⟨b, V, W, X, Y, y, A, aq, v, aE, aF, aG, aH, bd, be, bf, g, E⟩) d c f
 obtain ⟨k, rfl⟩ := Has.ex (cC (g.ins.get 0 rfl) cN)
 exact d9 E 4 jT z z z z<|nl ⟨z, (.inl ⟨a, _, v, (ap.step g d z z z z), E⟩)⟩
 obtain ⟨k, rfl⟩ := Has.ex (cC (g.ins.get 0 rfl) cN)
 exact d9 E 4 jT z z z z<|nl ⟨z, (.inr (.inl ⟨b, a, V, W, X, Y, _, v, aE, aF, aG, aH, (ap.step g d z z z z), E⟩))⟩
 cases (f 3 rfl).symm.trans b
 rintro D r bD (⟨a, aq, v, g, E⟩ | ⟨b, a, V, W, X, Y, aq, v, aE, aF, aG, aH, g, E⟩ | ⟨b, V, W, X, Y, y, A, aq, v, aE, aF, aG, aH, bd, be, bf, g, E⟩) d c f
 obtain ⟨k, rfl⟩ := Has.ex (cC (g.ins.get 1 rfl) cN)
 exact mv z<|nl ⟨z, (.inl ⟨a, _, v, (ap.step g d z z z z), E⟩)⟩
 obtain ⟨k, rfl⟩ := Has.ex (cC (g.ins.get 1 rfl) cN)
 exact mv z<|nl ⟨z, (.inr (.inl ⟨b, a, V, W, X, Y, _, v, aE, aF, aG, aH, (ap.step g d z z z z), E⟩))⟩
 cases (f 3 rfl).symm.trans b
 rintro D r bD (⟨a, aq, v, g, E⟩ | ⟨b, a, V, W, X, Y, aq, v, aE, aF, aG, aH, g, E⟩ | ⟨b, V, W, X, Y, y, A, aq, v, aE, aF, aG, aH, bd, be, bf, g, E⟩) d c f
 cases (c 0 rfl).symm.trans a
 obtain ⟨k, rfl⟩ := Has.ex (cC (g.get 2 rfl (c 0 rfl)) (cC (g.get 0 rfl (c 1 rfl)) (cC (g.get 1 rfl (c 2 rfl)) cN)))
 refine fU (vs := [agg [slice V bq.Glyphs.length W, slice X bq.Kerns.length Y].toArray, agg [int .i64 1, int .i64 1, slice none 0 0].toArray, string (⟨#[32]⟩ : ByteArray), int .i64 100, int .i64 12, int .i64 0, int .i64 0, int .i64 50, int .i64 7, slice (some ⟨aL, 0, none⟩) ([(⟨1, 0, 0, 45, 20⟩ : ab)] : List ab).length 1]) zQ z z (ib (a10 := (⟨1, 1, ([] : List ByteArray)⟩ : ak)) (a22 := ([(⟨1, 0, 0, 45, 20⟩ : ab)] : List ab)) cX E aE aF aG aH (show ([] : List ByteArray).length ≤ 0 from Nat.le_refl 0) (Dat.nil _ _ _) (show ([(⟨1, 0, 0, 45, 20⟩ : ab)] : List ab).length ≤ 1 from Nat.le_of_ble_eq_true z) (Dat.mono (gT (gT q u) v) ci) (bZ.mono (gT (gT (gT (gT bX bW) q) u) v)))<|?_
 rintro _ dU ⟨y, A, dV, b3, c0, bd, be, bf, rfl⟩
 refine ⟨_, rfl, ?_⟩
 exact nl ⟨z, (.inr (.inr ⟨z, V, W, X, Y, y, A, _, (gT v b3), aE, (Dat.mono b3 aF), aG, (Dat.mono b3 aH), bd, be, bf, (ap.step (ap.more (new := [(3, 45, tuple [slice y aW.length A, int .i64 a4, int .i64 bt].toArray), (4, 41, tuple [slice y aW.length A, int .i64 a4, int .i64 bt].toArray), (5, 46, slice y aW.length A), (6, 47, int .i64 a4), (7, 48, int .i64 bt), (8, 10, slice y aW.length A), (9, 11, int .i64 a4), (10, 12, int .i64 bt)]) g (List.forall_mem_cons.2 ⟨d, (List.forall_mem_cons.2 ⟨f 4 z, (List.forall_mem_cons.2 ⟨f 5 z, (List.forall_mem_cons.2 ⟨f 6 z, (List.forall_mem_cons.2 ⟨f 7 z, (List.forall_mem_cons.2 ⟨f 8 z, (List.forall_mem_cons.2 ⟨f 9 z, (List.forall_mem_cons.2 ⟨f 10 z, (fun _ h => nomatch h)⟩)⟩)⟩)⟩)⟩)⟩)⟩)⟩)) d z z z z), c0⟩))⟩
 cases d.symm.trans b
 rintro D r bD (⟨a, aq, v, g, E⟩ | ⟨b, a, V, W, X, Y, aq, v, aE, aF, aG, aH, g, E⟩ | ⟨b, V, W, X, Y, y, A, aq, v, aE, aF, aG, aH, bd, be, bf, g, E⟩) d c f
 cases (c 0 rfl).symm.trans a
 cases (c 3 rfl).symm.trans a
 obtain ⟨k, rfl⟩ := Has.ex (cC (g.get 3 rfl (c 3 rfl)) cN)
 exact mv z<|nl ⟨z, (.inr (.inr ⟨b, V, W, X, Y, y, A, _, v, aE, aF, aG, aH, bd, be, bf, (ap.step g d z z z z), E⟩))⟩
 rintro D r bD (⟨a, aq, v, g, E⟩ | ⟨b, a, V, W, X, Y, aq, v, aE, aF, aG, aH, g, E⟩ | ⟨b, V, W, X, Y, y, A, aq, v, aE, aF, aG, aH, bd, be, bf, g, E⟩) d c f
 cases (c 0 rfl).symm.trans a
 cases (c 3 rfl).symm.trans a
 obtain ⟨k, rfl⟩ := Has.ex (cC (g.get 4 rfl (c 4 rfl)) cN)
 exact cK z z<|nl ⟨z, (.inr (.inr ⟨b, V, W, X, Y, y, A, _, v, aE, aF, aG, aH, bd, be, bf, (ap.step g d z z z z), E⟩))⟩
 rintro D r bD (⟨a, aq, v, g, E⟩ | ⟨b, a, V, W, X, Y, aq, v, aE, aF, aG, aH, g, E⟩ | ⟨b, V, W, X, Y, y, A, aq, v, aE, aF, aG, aH, bd, be, bf, g, E⟩) d c f
 cases (c 0 rfl).symm.trans a
 cases (c 3 rfl).symm.trans a
 obtain ⟨k, rfl⟩ := Has.ex (cC (g.get 4 rfl (c 4 rfl)) cN)
 exact cK z z<|nl ⟨z, (.inr (.inr ⟨b, V, W, X, Y, y, A, _, v, aE, aF, aG, aH, bd, be, bf, (ap.step g d z z z z), E⟩))⟩
 rintro D r bD (⟨a, aq, v, g, E⟩ | ⟨b, a, V, W, X, Y, aq, v, aE, aF, aG, aH, g, E⟩ | ⟨b, V, W, X, Y, y, A, aq, v, aE, aF, aG, aH, bd, be, bf, g, E⟩) d c f
 cases (c 0 rfl).symm.trans a
 cases (c 3 rfl).symm.trans a
 obtain ⟨k, rfl⟩ := Has.ex (cC (g.get 4 rfl (c 4 rfl)) cN)
 exact cK z z<|nl ⟨z, (.inr (.inr ⟨b, V, W, X, Y, y, A, _, v, aE, aF, aG, aH, bd, be, bf, (ap.step g d z z z z), E⟩))⟩
 rintro D r bD (⟨a, aq, v, g, E⟩ | ⟨b, a, V, W, X, Y, aq, v, aE, aF, aG, aH, g, E⟩ | ⟨b, V, W, X, Y, y, A, aq, v, aE, aF, aG, aH, bd, be, bf, g, E⟩) d c f
 cases (c 0 rfl).symm.trans a
 cases (c 3 rfl).symm.trans a
 obtain ⟨k, rfl⟩ := Has.ex (cC (g.get 5 rfl (c 5 rfl)) cN)
 exact aj z<|nl ⟨z, (.inr (.inr ⟨b, V, W, X, Y, y, A, _, v, aE, aF, aG, aH, bd, be, bf, (ap.step g d z z z z), E⟩))⟩
 rintro D r bD (⟨a, aq, v, g, E⟩ | ⟨b, a, V, W, X, Y, aq, v, aE, aF, aG, aH, g, E⟩ | ⟨b, V, W, X, Y, y, A, aq, v, aE, aF, aG, aH, bd, be, bf, g, E⟩) d c f
 cases (c 0 rfl).symm.trans a
 cases (c 3 rfl).symm.trans a
 obtain ⟨k, rfl⟩ := Has.ex (cC (g.get 6 rfl (c 6 rfl)) cN)
 exact aj z<|nl ⟨z, (.inr (.inr ⟨b, V, W, X, Y, y, A, _, v, aE, aF, aG, aH, bd, be, bf, (ap.step g d z z z z), E⟩))⟩
 rintro D r bD (⟨a, aq, v, g, E⟩ | ⟨b, a, V, W, X, Y, aq, v, aE, aF, aG, aH, g, E⟩ | ⟨b, V, W, X, Y, y, A, aq, v, aE, aF, aG, aH, bd, be, bf, g, E⟩) d c f
 cases (c 0 rfl).symm.trans a
 cases (c 3 rfl).symm.trans a
 obtain ⟨k, rfl⟩ := Has.ex (cC (g.get 7 rfl (c 7 rfl)) cN)
 exact aj z<|nl ⟨z, (.inr (.inr ⟨b, V, W, X, Y, y, A, _, v, aE, aF, aG, aH, bd, be, bf, (ap.step g d z z z z), E⟩))⟩
 intro D r bD a0 hR
 rcases hR with ⟨a, aq, v, g, E⟩ | ⟨b, a, V, W, X, Y, aq, v, aE, aF, aG, aH, g, E⟩ | ⟨b, V, W, X, Y, y, A, aq, v, aE, aF, aG, aH, bd, be, bf, g, E⟩
 cases (a0 0 (Nat.le_of_ble_eq_true rfl)).symm.trans a
 cases (a0 3 (Nat.le_of_ble_eq_true rfl)).symm.trans a
 obtain ⟨k, rfl⟩ := Has.ex (cC (g.ins.get 0 rfl) (cC (g.ins.get 2 rfl) (cC (g.ins.get 3 rfl) (cC (g.ins.get 4 rfl) (cC (g.ins.get 5 rfl) (cC (g.ins.get 6 rfl) (cC (g.ins.get 7 rfl) (cC (g.get 8 rfl (a0 8 (Nat.le_of_ble_eq_true rfl))) (cC (g.get 9 rfl (a0 9 (Nat.le_of_ble_eq_true rfl))) (cC (g.get 10 rfl (a0 10 (Nat.le_of_ble_eq_true rfl))) cN))))))))))
 refine cV _ _ _<|sQ fun dW c1=>bK H fun br c2 H=>xr H fun bu bJ bv c3 H=>?_
 refine eC [0, 0, 3, 7, 15, 15, 15, 31, 191, 511] (fun D r w => (D 0 = false ∧ ∃ (G' : Gh), aq ≤ G' ∧ ap [(1, pointer (some ⟨g6, 0, none⟩)), (4, slice o Z.length p), (5, int .i64 a1), (6, int .i64 a5), (7, slice s az.length t), (8, int .i64 a2), (9, int .i64 bn), (10, slice y aW.length A), (11, int .i64 a4), (12, int .i64 bt)] [] [(1, 51, agg [int .i64 1, int .i64 1, slice none 0 0].toArray)] D r ∧ Hp G' (tk (slice y aW.length A) 5 50 :: tk (slice s az.length t) 5 50 :: tk (slice o Z.length p) 5 50 :: tk (slice (some ⟨aL, 0, none⟩) ([(⟨1, 0, 0, 45, 20⟩ : ab)] : List ab).length 1) 5 57 :: tk (slice (some ⟨a3, 0, none⟩) ([(⟨1, 0, 0, 30, 20⟩ : ab)] : List ab).length 1) 5 57 :: bx g6 [int .i64 1, int .i64 1, slice none 0 0] 28 :: L) w) ∨ (D 0 = true ∧ D 2 = false ∧ ∃ (aa : Option Addr) (ad : Nat) (ae : Option Addr) (af : Nat) (G' : Gh), aq ≤ G' ∧ br.Glyphs.length ≤ ad ∧ Dat au G' aa br.Glyphs ∧ br.Kerns.length ≤ af ∧ Dat ay G' ae br.Kerns ∧ ap [(1, pointer (some ⟨g6, 0, none⟩)), (4, slice o Z.length p), (5, int .i64 a1), (6, int .i64 a5), (7, slice s az.length t), (8, int .i64 a2), (9, int .i64 bn), (10, slice y aW.length A), (11, int .i64 a4), (12, int .i64 bt)] [] [(1, 51, agg [int .i64 1, int .i64 1, slice none 0 0].toArray), (0, 50, agg [slice aa br.Glyphs.length ad, slice ae br.Kerns.length af].toArray)] D r ∧ Hp G' (tk (slice y aW.length A) 5 50 :: tk (slice s az.length t) 5 50 :: tk (slice o Z.length p) 5 50 :: tk (slice (some ⟨aL, 0, none⟩) ([(⟨1, 0, 0, 45, 20⟩ : ab)] : List ab).length 1) 5 57 :: tk (slice (some ⟨a3, 0, none⟩) ([(⟨1, 0, 0, 30, 20⟩ : ab)] : List ab).length 1) 5 57 :: bx g6 [int .i64 1, int .i64 1, slice none 0 0] 28 :: L) w) ∨ (D 2 = true ∧ ∃ (aa : Option Addr) (ad : Nat) (ae : Option Addr) (af : Nat) (aI : Option Addr) (aJ : Nat) (G' : Gh), aq ≤ G' ∧ br.Glyphs.length ≤ ad ∧ Dat au G' aa br.Glyphs ∧ br.Kerns.length ≤ af ∧ Dat ay G' ae br.Kerns ∧ bu.length ≤ aJ ∧ Dat b6 G' aI bu ∧ Own aI aJ ∧ ap [(1, pointer (some ⟨g6, 0, none⟩)), (4, slice o Z.length p), (5, int .i64 a1), (6, int .i64 a5), (7, slice s az.length t), (8, int .i64 a2), (9, int .i64 bn), (10, slice y aW.length A), (11, int .i64 a4), (12, int .i64 bt)] [] [(1, 51, agg [int .i64 1, int .i64 1, slice none 0 0].toArray), (0, 50, agg [slice aa br.Glyphs.length ad, slice ae br.Kerns.length af].toArray), (2, 52, tuple [slice aI bu.length aJ, int .i64 bJ, int .i64 bv].toArray), (3, 49, tuple [slice aI bu.length aJ, int .i64 bJ, int .i64 bv].toArray), (4, 53, slice aI bu.length aJ), (5, 54, int .i64 bJ), (6, 55, int .i64 bv), (7, 13, slice aI bu.length aJ), (8, 14, int .i64 bJ), (9, 15, int .i64 bv)] D r ∧ Hp G' (tk (slice aI bu.length aJ) 5 50 :: tk (slice y aW.length A) 5 50 :: tk (slice s az.length t) 5 50 :: tk (slice o Z.length p) 5 50 :: tk (slice (some ⟨aL, 0, none⟩) ([(⟨1, 0, 0, 45, 20⟩ : ab)] : List ab).length 1) 5 57 :: tk (slice (some ⟨a3, 0, none⟩) ([(⟨1, 0, 0, 30, 20⟩ : ab)] : List ab).length 1) 5 57 :: bx g6 [int .i64 1, int .i64 1, slice none 0 0] 28 :: L) w)) jD z z ?_ ?_ ?_
 exact (.inl ⟨z, _, Gh.le_refl _, ap.start ⟨z, z, z, z, z, z, z, z, z, z, tv⟩ trivial, E.drew⟩)
 refine ⟨?_, ?_, ?_, ?_, ?_, ?_, ?_, ?_, ?_, ?_, tv⟩
 rintro D r bG (⟨a, aK, F, l, K⟩ | ⟨b, a, aa, ad, ae, af, aK, F, aN, aO, aP, aQ, l, K⟩ | ⟨b, aa, ad, ae, af, aI, aJ, aK, F, aN, aO, aP, aQ, bg, bh, bi, l, K⟩) d c f
 obtain ⟨k, rfl⟩ := Has.ex (r := r) cN
 refine fU (vs := []) Ai z z (gi c2 K)<|?_
 rintro _ dX ⟨aa, ad, ae, af, dY, c4, c5, aN, aO, aP, aQ, rfl⟩
 refine ⟨_, rfl, ?_⟩
 exact nl ⟨z, (.inr (.inl ⟨z, (f 2 z), aa, ad, ae, af, _, (gT F c4), aN, aO, aP, aQ, (ap.step (ap.more (new := [(0, 50, agg [slice aa br.Glyphs.length ad, slice ae br.Kerns.length af].toArray)]) l (List.forall_mem_cons.2 ⟨d, (fun _ h => nomatch h)⟩)) d z z z z), c5⟩))⟩
 cases d.symm.trans b
 cases (f 2 rfl).symm.trans b
 rintro D r bG (⟨a, aK, F, l, K⟩ | ⟨b, a, aa, ad, ae, af, aK, F, aN, aO, aP, aQ, l, K⟩ | ⟨b, aa, ad, ae, af, aI, aJ, aK, F, aN, aO, aP, aQ, bg, bh, bi, l, K⟩) d c f
 obtain ⟨k, rfl⟩ := Has.ex (cC (l.ins.get 0 rfl) cN)
 exact d9 K 5 jT z z z z<|nl ⟨z, (.inl ⟨a, _, F, (ap.step l d z z z z), K⟩)⟩
 obtain ⟨k, rfl⟩ := Has.ex (cC (l.ins.get 0 rfl) cN)
 exact d9 K 5 jT z z z z<|nl ⟨z, (.inr (.inl ⟨b, a, aa, ad, ae, af, _, F, aN, aO, aP, aQ, (ap.step l d z z z z), K⟩))⟩
 cases (f 2 rfl).symm.trans b
 rintro D r bG (⟨a, aK, F, l, K⟩ | ⟨b, a, aa, ad, ae, af, aK, F, aN, aO, aP, aQ, l, K⟩ | ⟨b, aa, ad, ae, af, aI, aJ, aK, F, aN, aO, aP, aQ, bg, bh, bi, l, K⟩) d c f
 cases (c 0 rfl).symm.trans a
 obtain ⟨k, rfl⟩ := Has.ex (cC (l.get 1 rfl (c 0 rfl)) (cC (l.get 0 rfl (c 1 rfl)) cN))
 refine fU (vs := [agg [slice aa br.Glyphs.length ad, slice ae br.Kerns.length af].toArray, agg [int .i64 1, int .i64 1, slice none 0 0].toArray, string (⟨#[120]⟩ : ByteArray), int .i64 100, int .i64 12, int .i64 0, int .i64 0, int .i64 50, int .i64 0, slice none 0 0]) zQ z z (ib (a10 := (⟨1, 1, ([] : List ByteArray)⟩ : ak)) (a22 := ([] : List ab)) c3 K aN aO aP aQ (show ([] : List ByteArray).length ≤ 0 from Nat.le_refl 0) (Dat.nil _ _ _) (show ([] : List ab).length ≤ 0 from Nat.le_refl 0) (Dat.nil _ _ _) (bZ.mono (gT (gT (gT (gT (gT bX bW) q) u) v) F)))<|?_
 rintro _ dZ ⟨aI, aJ, d0, b4, c6, bg, bh, bi, rfl⟩
 refine ⟨_, rfl, ?_⟩
 exact nl ⟨z, (.inr (.inr ⟨z, aa, ad, ae, af, aI, aJ, _, (gT F b4), aN, (Dat.mono b4 aO), aP, (Dat.mono b4 aQ), bg, bh, bi, (ap.step (ap.more (new := [(2, 52, tuple [slice aI bu.length aJ, int .i64 bJ, int .i64 bv].toArray), (3, 49, tuple [slice aI bu.length aJ, int .i64 bJ, int .i64 bv].toArray), (4, 53, slice aI bu.length aJ), (5, 54, int .i64 bJ), (6, 55, int .i64 bv), (7, 13, slice aI bu.length aJ), (8, 14, int .i64 bJ), (9, 15, int .i64 bv)]) l (List.forall_mem_cons.2 ⟨d, (List.forall_mem_cons.2 ⟨f 3 z, (List.forall_mem_cons.2 ⟨f 4 z, (List.forall_mem_cons.2 ⟨f 5 z, (List.forall_mem_cons.2 ⟨f 6 z, (List.forall_mem_cons.2 ⟨f 7 z, (List.forall_mem_cons.2 ⟨f 8 z, (List.forall_mem_cons.2 ⟨f 9 z, (fun _ h => nomatch h)⟩)⟩)⟩)⟩)⟩)⟩)⟩)⟩)) d z z z z), c6⟩))⟩
 cases d.symm.trans b
 rintro D r bG (⟨a, aK, F, l, K⟩ | ⟨b, a, aa, ad, ae, af, aK, F, aN, aO, aP, aQ, l, K⟩ | ⟨b, aa, ad, ae, af, aI, aJ, aK, F, aN, aO, aP, aQ, bg, bh, bi, l, K⟩) d c f
 cases (c 0 rfl).symm.trans a
 cases (c 2 rfl).symm.trans a
 obtain ⟨k, rfl⟩ := Has.ex (cC (l.get 2 rfl (c 2 rfl)) cN)
 exact mv z<|nl ⟨z, (.inr (.inr ⟨b, aa, ad, ae, af, aI, aJ, _, F, aN, aO, aP, aQ, bg, bh, bi, (ap.step l d z z z z), K⟩))⟩
 rintro D r bG (⟨a, aK, F, l, K⟩ | ⟨b, a, aa, ad, ae, af, aK, F, aN, aO, aP, aQ, l, K⟩ | ⟨b, aa, ad, ae, af, aI, aJ, aK, F, aN, aO, aP, aQ, bg, bh, bi, l, K⟩) d c f
 cases (c 0 rfl).symm.trans a
 cases (c 2 rfl).symm.trans a
 obtain ⟨k, rfl⟩ := Has.ex (cC (l.get 3 rfl (c 3 rfl)) cN)
 exact cK z z<|nl ⟨z, (.inr (.inr ⟨b, aa, ad, ae, af, aI, aJ, _, F, aN, aO, aP, aQ, bg, bh, bi, (ap.step l d z z z z), K⟩))⟩
 rintro D r bG (⟨a, aK, F, l, K⟩ | ⟨b, a, aa, ad, ae, af, aK, F, aN, aO, aP, aQ, l, K⟩ | ⟨b, aa, ad, ae, af, aI, aJ, aK, F, aN, aO, aP, aQ, bg, bh, bi, l, K⟩) d c f
 cases (c 0 rfl).symm.trans a
 cases (c 2 rfl).symm.trans a
 obtain ⟨k, rfl⟩ := Has.ex (cC (l.get 3 rfl (c 3 rfl)) cN)
 exact cK z z<|nl ⟨z, (.inr (.inr ⟨b, aa, ad, ae, af, aI, aJ, _, F, aN, aO, aP, aQ, bg, bh, bi, (ap.step l d z z z z), K⟩))⟩
 rintro D r bG (⟨a, aK, F, l, K⟩ | ⟨b, a, aa, ad, ae, af, aK, F, aN, aO, aP, aQ, l, K⟩ | ⟨b, aa, ad, ae, af, aI, aJ, aK, F, aN, aO, aP, aQ, bg, bh, bi, l, K⟩) d c f
 cases (c 0 rfl).symm.trans a
 cases (c 2 rfl).symm.trans a
 obtain ⟨k, rfl⟩ := Has.ex (cC (l.get 3 rfl (c 3 rfl)) cN)
 exact cK z z<|nl ⟨z, (.inr (.inr ⟨b, aa, ad, ae, af, aI, aJ, _, F, aN, aO, aP, aQ, bg, bh, bi, (ap.step l d z z z z), K⟩))⟩
 rintro D r bG (⟨a, aK, F, l, K⟩ | ⟨b, a, aa, ad, ae, af, aK, F, aN, aO, aP, aQ, l, K⟩ | ⟨b, aa, ad, ae, af, aI, aJ, aK, F, aN, aO, aP, aQ, bg, bh, bi, l, K⟩) d c f
 cases (c 0 rfl).symm.trans a
 cases (c 2 rfl).symm.trans a
 obtain ⟨k, rfl⟩ := Has.ex (cC (l.get 4 rfl (c 4 rfl)) cN)
 exact aj z<|nl ⟨z, (.inr (.inr ⟨b, aa, ad, ae, af, aI, aJ, _, F, aN, aO, aP, aQ, bg, bh, bi, (ap.step l d z z z z), K⟩))⟩
 rintro D r bG (⟨a, aK, F, l, K⟩ | ⟨b, a, aa, ad, ae, af, aK, F, aN, aO, aP, aQ, l, K⟩ | ⟨b, aa, ad, ae, af, aI, aJ, aK, F, aN, aO, aP, aQ, bg, bh, bi, l, K⟩) d c f
 cases (c 0 rfl).symm.trans a
 cases (c 2 rfl).symm.trans a
 obtain ⟨k, rfl⟩ := Has.ex (cC (l.get 5 rfl (c 5 rfl)) cN)
 exact aj z<|nl ⟨z, (.inr (.inr ⟨b, aa, ad, ae, af, aI, aJ, _, F, aN, aO, aP, aQ, bg, bh, bi, (ap.step l d z z z z), K⟩))⟩
 rintro D r bG (⟨a, aK, F, l, K⟩ | ⟨b, a, aa, ad, ae, af, aK, F, aN, aO, aP, aQ, l, K⟩ | ⟨b, aa, ad, ae, af, aI, aJ, aK, F, aN, aO, aP, aQ, bg, bh, bi, l, K⟩) d c f
 cases (c 0 rfl).symm.trans a
 cases (c 2 rfl).symm.trans a
 obtain ⟨k, rfl⟩ := Has.ex (cC (l.get 6 rfl (c 6 rfl)) cN)
 exact aj z<|nl ⟨z, (.inr (.inr ⟨b, aa, ad, ae, af, aI, aJ, _, F, aN, aO, aP, aQ, bg, bh, bi, (ap.step l d z z z z), K⟩))⟩
 intro D r bG a0 hR
 rcases hR with ⟨a, aK, F, l, K⟩ | ⟨b, a, aa, ad, ae, af, aK, F, aN, aO, aP, aQ, l, K⟩ | ⟨b, aa, ad, ae, af, aI, aJ, aK, F, aN, aO, aP, aQ, bg, bh, bi, l, K⟩
 cases (a0 0 (Nat.le_of_ble_eq_true rfl)).symm.trans a
 cases (a0 2 (Nat.le_of_ble_eq_true rfl)).symm.trans a
 obtain ⟨k, rfl⟩ := Has.ex (cC (l.ins.get 0 rfl) (cC (l.ins.get 1 rfl) (cC (l.ins.get 2 rfl) (cC (l.ins.get 3 rfl) (cC (l.ins.get 4 rfl) (cC (l.ins.get 5 rfl) (cC (l.ins.get 6 rfl) (cC (l.ins.get 7 rfl) (cC (l.ins.get 8 rfl) (cC (l.ins.get 9 rfl) (cC (l.get 9 rfl (a0 9 (Nat.le_of_ble_eq_true rfl))) cN)))))))))))
 refine c1 _ _ _<|sQ fun d1 c7=>bK H fun bs c8 H=>xr H fun bw bL bE c9 H=>?_
 refine eC [0, 0, 3, 7, 15, 15, 15, 31, 191, 511] (fun D r w => (D 0 = false ∧ ∃ (G' : Gh), aK ≤ G' ∧ ap [(1, pointer (some ⟨g6, 0, none⟩)), (4, slice o Z.length p), (5, int .i64 a1), (6, int .i64 a5), (7, slice s az.length t), (8, int .i64 a2), (9, int .i64 bn), (10, slice y aW.length A), (11, int .i64 a4), (12, int .i64 bt), (15, int .i64 bv)] [] [(1, 58, agg [int .i64 1, int .i64 1, slice none 0 0].toArray)] D r ∧ Hp G' (tk (slice aI bu.length aJ) 5 50 :: tk (slice y aW.length A) 5 50 :: tk (slice s az.length t) 5 50 :: tk (slice o Z.length p) 5 50 :: tk (slice (some ⟨aL, 0, none⟩) ([(⟨1, 0, 0, 45, 20⟩ : ab)] : List ab).length 1) 5 57 :: tk (slice (some ⟨a3, 0, none⟩) ([(⟨1, 0, 0, 30, 20⟩ : ab)] : List ab).length 1) 5 57 :: bx g6 [int .i64 1, int .i64 1, slice none 0 0] 28 :: L) w) ∨ (D 0 = true ∧ D 2 = false ∧ ∃ (ag : Option Addr) (ah : Nat) (ai : Option Addr) (al : Nat) (G' : Gh), aK ≤ G' ∧ bs.Glyphs.length ≤ ah ∧ Dat au G' ag bs.Glyphs ∧ bs.Kerns.length ≤ al ∧ Dat ay G' ai bs.Kerns ∧ ap [(1, pointer (some ⟨g6, 0, none⟩)), (4, slice o Z.length p), (5, int .i64 a1), (6, int .i64 a5), (7, slice s az.length t), (8, int .i64 a2), (9, int .i64 bn), (10, slice y aW.length A), (11, int .i64 a4), (12, int .i64 bt), (15, int .i64 bv)] [] [(1, 58, agg [int .i64 1, int .i64 1, slice none 0 0].toArray), (0, 57, agg [slice ag bs.Glyphs.length ah, slice ai bs.Kerns.length al].toArray)] D r ∧ Hp G' (tk (slice aI bu.length aJ) 5 50 :: tk (slice y aW.length A) 5 50 :: tk (slice s az.length t) 5 50 :: tk (slice o Z.length p) 5 50 :: tk (slice (some ⟨aL, 0, none⟩) ([(⟨1, 0, 0, 45, 20⟩ : ab)] : List ab).length 1) 5 57 :: tk (slice (some ⟨a3, 0, none⟩) ([(⟨1, 0, 0, 30, 20⟩ : ab)] : List ab).length 1) 5 57 :: bx g6 [int .i64 1, int .i64 1, slice none 0 0] 28 :: L) w) ∨ (D 2 = true ∧ ∃ (ag : Option Addr) (ah : Nat) (ai : Option Addr) (al : Nat) (aX : Option Addr) (aY : Nat) (G' : Gh), aK ≤ G' ∧ bs.Glyphs.length ≤ ah ∧ Dat au G' ag bs.Glyphs ∧ bs.Kerns.length ≤ al ∧ Dat ay G' ai bs.Kerns ∧ bw.length ≤ aY ∧ Dat b6 G' aX bw ∧ Own aX aY ∧ ap [(1, pointer (some ⟨g6, 0, none⟩)), (4, slice o Z.length p), (5, int .i64 a1), (6, int .i64 a5), (7, slice s az.length t), (8, int .i64 a2), (9, int .i64 bn), (10, slice y aW.length A), (11, int .i64 a4), (12, int .i64 bt), (15, int .i64 bv)] [] [(1, 58, agg [int .i64 1, int .i64 1, slice none 0 0].toArray), (0, 57, agg [slice ag bs.Glyphs.length ah, slice ai bs.Kerns.length al].toArray), (2, 59, tuple [slice aX bw.length aY, int .i64 bL, int .i64 bE].toArray), (3, 56, tuple [slice aX bw.length aY, int .i64 bL, int .i64 bE].toArray), (4, 60, slice aX bw.length aY), (5, 61, int .i64 bL), (6, 62, int .i64 bE), (7, 16, slice aX bw.length aY), (8, 17, int .i64 bL), (9, 18, int .i64 bE)] D r ∧ Hp G' (tk (slice aX bw.length aY) 5 50 :: tk (slice aI bu.length aJ) 5 50 :: tk (slice y aW.length A) 5 50 :: tk (slice s az.length t) 5 50 :: tk (slice o Z.length p) 5 50 :: tk (slice (some ⟨aL, 0, none⟩) ([(⟨1, 0, 0, 45, 20⟩ : ab)] : List ab).length 1) 5 57 :: tk (slice (some ⟨a3, 0, none⟩) ([(⟨1, 0, 0, 30, 20⟩ : ab)] : List ab).length 1) 5 57 :: bx g6 [int .i64 1, int .i64 1, slice none 0 0] 28 :: L) w)) jD z z ?_ ?_ ?_
 exact (.inl ⟨z, _, Gh.le_refl _, ap.start ⟨z, z, z, z, z, z, z, z, z, z, z, tv⟩ trivial, K.drew⟩)
 refine ⟨?_, ?_, ?_, ?_, ?_, ?_, ?_, ?_, ?_, ?_, tv⟩
 rintro D r bH (⟨a, aR, I, m, J⟩ | ⟨b, a, ag, ah, ai, al, aR, I, aS, aT, aU, aV, m, J⟩ | ⟨b, ag, ah, ai, al, aX, aY, aR, I, aS, aT, aU, aV, bj, bk, bl, m, J⟩) d c f
 obtain ⟨k, rfl⟩ := Has.ex (r := r) cN
 refine fU (vs := []) Ai z z (gi c8 J)<|?_
 rintro _ d2 ⟨ag, ah, ai, al, d3, da, db, aS, aT, aU, aV, rfl⟩
 refine ⟨_, rfl, ?_⟩
 exact nl ⟨z, (.inr (.inl ⟨z, (f 2 z), ag, ah, ai, al, _, (gT I da), aS, aT, aU, aV, (ap.step (ap.more (new := [(0, 57, agg [slice ag bs.Glyphs.length ah, slice ai bs.Kerns.length al].toArray)]) m (List.forall_mem_cons.2 ⟨d, (fun _ h => nomatch h)⟩)) d z z z z), db⟩))⟩
 cases d.symm.trans b
 cases (f 2 rfl).symm.trans b
 rintro D r bH (⟨a, aR, I, m, J⟩ | ⟨b, a, ag, ah, ai, al, aR, I, aS, aT, aU, aV, m, J⟩ | ⟨b, ag, ah, ai, al, aX, aY, aR, I, aS, aT, aU, aV, bj, bk, bl, m, J⟩) d c f
 obtain ⟨k, rfl⟩ := Has.ex (cC (m.ins.get 0 rfl) cN)
 exact d9 J 6 jT z z z z<|nl ⟨z, (.inl ⟨a, _, I, (ap.step m d z z z z), J⟩)⟩
 obtain ⟨k, rfl⟩ := Has.ex (cC (m.ins.get 0 rfl) cN)
 exact d9 J 6 jT z z z z<|nl ⟨z, (.inr (.inl ⟨b, a, ag, ah, ai, al, _, I, aS, aT, aU, aV, (ap.step m d z z z z), J⟩))⟩
 cases (f 2 rfl).symm.trans b
 rintro D r bH (⟨a, aR, I, m, J⟩ | ⟨b, a, ag, ah, ai, al, aR, I, aS, aT, aU, aV, m, J⟩ | ⟨b, ag, ah, ai, al, aX, aY, aR, I, aS, aT, aU, aV, bj, bk, bl, m, J⟩) d c f
 cases (c 0 rfl).symm.trans a
 obtain ⟨k, rfl⟩ := Has.ex (cC (m.get 1 rfl (c 0 rfl)) (cC (m.get 0 rfl (c 1 rfl)) cN))
 refine fU (vs := [agg [slice ag bs.Glyphs.length ah, slice ai bs.Kerns.length al].toArray, agg [int .i64 1, int .i64 1, slice none 0 0].toArray, string (⟨#[97]⟩ : ByteArray), int .i64 100, int .i64 12, int .i64 3, int .i64 0, int .i64 50, int .i64 0, slice none 0 0]) zQ z z (ib (a10 := (⟨1, 1, ([] : List ByteArray)⟩ : ak)) (a22 := ([] : List ab)) c9 J aS aT aU aV (show ([] : List ByteArray).length ≤ 0 from Nat.le_refl 0) (Dat.nil _ _ _) (show ([] : List ab).length ≤ 0 from Nat.le_refl 0) (Dat.nil _ _ _) (bZ.mono (gT (gT (gT (gT (gT (gT bX bW) q) u) v) F) I)))<|?_
 rintro _ d4 ⟨aX, aY, d5, b5, dc, bj, bk, bl, rfl⟩
 refine ⟨_, rfl, ?_⟩
 exact nl ⟨z, (.inr (.inr ⟨z, ag, ah, ai, al, aX, aY, _, (gT I b5), aS, (Dat.mono b5 aT), aU, (Dat.mono b5 aV), bj, bk, bl, (ap.step (ap.more (new := [(2, 59, tuple [slice aX bw.length aY, int .i64 bL, int .i64 bE].toArray), (3, 56, tuple [slice aX bw.length aY, int .i64 bL, int .i64 bE].toArray), (4, 60, slice aX bw.length aY), (5, 61, int .i64 bL), (6, 62, int .i64 bE), (7, 16, slice aX bw.length aY), (8, 17, int .i64 bL), (9, 18, int .i64 bE)]) m (List.forall_mem_cons.2 ⟨d, (List.forall_mem_cons.2 ⟨f 3 z, (List.forall_mem_cons.2 ⟨f 4 z, (List.forall_mem_cons.2 ⟨f 5 z, (List.forall_mem_cons.2 ⟨f 6 z, (List.forall_mem_cons.2 ⟨f 7 z, (List.forall_mem_cons.2 ⟨f 8 z, (List.forall_mem_cons.2 ⟨f 9 z, (fun _ h => nomatch h)⟩)⟩)⟩)⟩)⟩)⟩)⟩)⟩)) d z z z z), dc⟩))⟩
 cases d.symm.trans b
 rintro D r bH (⟨a, aR, I, m, J⟩ | ⟨b, a, ag, ah, ai, al, aR, I, aS, aT, aU, aV, m, J⟩ | ⟨b, ag, ah, ai, al, aX, aY, aR, I, aS, aT, aU, aV, bj, bk, bl, m, J⟩) d c f
 cases (c 0 rfl).symm.trans a
 cases (c 2 rfl).symm.trans a
 obtain ⟨k, rfl⟩ := Has.ex (cC (m.get 2 rfl (c 2 rfl)) cN)
 exact mv z<|nl ⟨z, (.inr (.inr ⟨b, ag, ah, ai, al, aX, aY, _, I, aS, aT, aU, aV, bj, bk, bl, (ap.step m d z z z z), J⟩))⟩
 rintro D r bH (⟨a, aR, I, m, J⟩ | ⟨b, a, ag, ah, ai, al, aR, I, aS, aT, aU, aV, m, J⟩ | ⟨b, ag, ah, ai, al, aX, aY, aR, I, aS, aT, aU, aV, bj, bk, bl, m, J⟩) d c f
 cases (c 0 rfl).symm.trans a
 cases (c 2 rfl).symm.trans a
 obtain ⟨k, rfl⟩ := Has.ex (cC (m.get 3 rfl (c 3 rfl)) cN)
 exact cK z z<|nl ⟨z, (.inr (.inr ⟨b, ag, ah, ai, al, aX, aY, _, I, aS, aT, aU, aV, bj, bk, bl, (ap.step m d z z z z), J⟩))⟩
 rintro D r bH (⟨a, aR, I, m, J⟩ | ⟨b, a, ag, ah, ai, al, aR, I, aS, aT, aU, aV, m, J⟩ | ⟨b, ag, ah, ai, al, aX, aY, aR, I, aS, aT, aU, aV, bj, bk, bl, m, J⟩) d c f
 cases (c 0 rfl).symm.trans a
 cases (c 2 rfl).symm.trans a
 obtain ⟨k, rfl⟩ := Has.ex (cC (m.get 3 rfl (c 3 rfl)) cN)
 exact cK z z<|nl ⟨z, (.inr (.inr ⟨b, ag, ah, ai, al, aX, aY, _, I, aS, aT, aU, aV, bj, bk, bl, (ap.step m d z z z z), J⟩))⟩
 rintro D r bH (⟨a, aR, I, m, J⟩ | ⟨b, a, ag, ah, ai, al, aR, I, aS, aT, aU, aV, m, J⟩ | ⟨b, ag, ah, ai, al, aX, aY, aR, I, aS, aT, aU, aV, bj, bk, bl, m, J⟩) d c f
 cases (c 0 rfl).symm.trans a
 cases (c 2 rfl).symm.trans a
 obtain ⟨k, rfl⟩ := Has.ex (cC (m.get 3 rfl (c 3 rfl)) cN)
 exact cK z z<|nl ⟨z, (.inr (.inr ⟨b, ag, ah, ai, al, aX, aY, _, I, aS, aT, aU, aV, bj, bk, bl, (ap.step m d z z z z), J⟩))⟩
 rintro D r bH (⟨a, aR, I, m, J⟩ | ⟨b, a, ag, ah, ai, al, aR, I, aS, aT, aU, aV, m, J⟩ | ⟨b, ag, ah, ai, al, aX, aY, aR, I, aS, aT, aU, aV, bj, bk, bl, m, J⟩) d c f
 cases (c 0 rfl).symm.trans a
 cases (c 2 rfl).symm.trans a
 obtain ⟨k, rfl⟩ := Has.ex (cC (m.get 4 rfl (c 4 rfl)) cN)
 exact aj z<|nl ⟨z, (.inr (.inr ⟨b, ag, ah, ai, al, aX, aY, _, I, aS, aT, aU, aV, bj, bk, bl, (ap.step m d z z z z), J⟩))⟩
 rintro D r bH (⟨a, aR, I, m, J⟩ | ⟨b, a, ag, ah, ai, al, aR, I, aS, aT, aU, aV, m, J⟩ | ⟨b, ag, ah, ai, al, aX, aY, aR, I, aS, aT, aU, aV, bj, bk, bl, m, J⟩) d c f
 cases (c 0 rfl).symm.trans a
 cases (c 2 rfl).symm.trans a
 obtain ⟨k, rfl⟩ := Has.ex (cC (m.get 5 rfl (c 5 rfl)) cN)
 exact aj z<|nl ⟨z, (.inr (.inr ⟨b, ag, ah, ai, al, aX, aY, _, I, aS, aT, aU, aV, bj, bk, bl, (ap.step m d z z z z), J⟩))⟩
 rintro D r bH (⟨a, aR, I, m, J⟩ | ⟨b, a, ag, ah, ai, al, aR, I, aS, aT, aU, aV, m, J⟩ | ⟨b, ag, ah, ai, al, aX, aY, aR, I, aS, aT, aU, aV, bj, bk, bl, m, J⟩) d c f
 cases (c 0 rfl).symm.trans a
 cases (c 2 rfl).symm.trans a
 obtain ⟨k, rfl⟩ := Has.ex (cC (m.get 6 rfl (c 6 rfl)) cN)
 exact aj z<|nl ⟨z, (.inr (.inr ⟨b, ag, ah, ai, al, aX, aY, _, I, aS, aT, aU, aV, bj, bk, bl, (ap.step m d z z z z), J⟩))⟩
 intro D r bH a0 hR
 rcases hR with ⟨a, aR, I, m, J⟩ | ⟨b, a, ag, ah, ai, al, aR, I, aS, aT, aU, aV, m, J⟩ | ⟨b, ag, ah, ai, al, aX, aY, aR, I, aS, aT, aU, aV, bj, bk, bl, m, J⟩
 cases (a0 0 (Nat.le_of_ble_eq_true rfl)).symm.trans a
 cases (a0 2 (Nat.le_of_ble_eq_true rfl)).symm.trans a
 obtain ⟨k, rfl⟩ := Has.ex (cC (m.ins.get 1 rfl) (cC (m.ins.get 2 rfl) (cC (m.ins.get 3 rfl) (cC (m.ins.get 4 rfl) (cC (m.ins.get 5 rfl) (cC (m.ins.get 6 rfl) (cC (m.ins.get 7 rfl) (cC (m.ins.get 8 rfl) (cC (m.ins.get 9 rfl) (cC (m.ins.get 10 rfl) (cC (m.get 9 rfl (a0 9 (Nat.le_of_ble_eq_true rfl))) cN)))))))))))
 refine c7 _ _ _<|sr fun d6 dd=>mv z<|bA z z<|mv z<|bK H fun cj hC H=>?_
 refine jS 3 aR [(4, slice o Z.length p), (5, int .i64 a1), (7, slice s az.length t), (8, int .i64 a2), (10, slice y aW.length A), (11, int .i64 a4), (12, int .i64 bt), (15, int .i64 bv), (18, int .i64 bE), (68, bool cj)] (bx g6 [int .i64 1, int .i64 1, slice none 0 0] 28 :: tk (slice aX bw.length aY) 5 50 :: tk (slice aI bu.length aJ) 5 50 :: tk (slice y aW.length A) 5 50 :: tk (slice s az.length t) 5 50 :: tk (slice o Z.length p) 5 50 :: tk (slice (some ⟨aL, 0, none⟩) ([(⟨1, 0, 0, 45, 20⟩ : ab)] : List ab).length 1) 5 57 :: tk (slice (some ⟨a3, 0, none⟩) ([(⟨1, 0, 0, 30, 20⟩ : ab)] : List ab).length 1) 5 57 :: L) ?_ fun _ d7 b8=>?_
 refine have H:=hC;dC (a5 = 0) (fun bM=>?_) fun bM=>?_
 refine yK bM H fun H=>mv (hw:=gY z z z (bY bM)) z<|bA (hw:=gY z z z (bY bM)) z z<|bR (bY bM) z<|nl<|have de:=Hp.pick 8 [7, 0, 1, 2, 3, 4, 5, 6] J z;?_
 cases H
 exact je ⟨z, z, z, z, z, z, z, z, z, z, tv⟩ de
 refine nK bM H fun H=>Sk 2 z z (bN bM) z<|b7 (bN bM) z<|nl<|have df:=Hp.pick 8 [7, 0, 1, 2, 3, 4, 5, 6] J z;?_
 cases H
 exact je ⟨z, z, z, z, z, z, z, z, z, z, tv⟩ df
 refine mv z<|bK H fun ck hC H=>js 3 b8 [(4, slice o Z.length p), (5, int .i64 a1), (7, slice s az.length t), (8, int .i64 a2), (10, slice y aW.length A), (11, int .i64 a4), (15, int .i64 bv), (18, int .i64 bE), (72, bool ck)] ?_ fun _ d8 b9=>?_
 refine have H:=hC;dC (cj = true) (fun bP=>?_) fun bP=>?_
 refine yK bP H fun H=>mv (hw:=gY z z z (vY bP)) z<|bA (hw:=gY z z z (vY bP)) z z<|bR (vY bP) z<|nl<|?_
 cases H
 exact je ⟨z, z, z, z, z, z, z, z, z, tv⟩ b8
 refine nK bP H fun H=>Sk 2 z z (vN bP) z<|b7 (vN bP) z<|nl<|?_
 cases H
 exact je ⟨z, z, z, z, z, z, z, z, z, tv⟩ b8
 refine mv z<|bK H fun cl hC H=>js 3 b9 [(4, slice o Z.length p), (5, int .i64 a1), (7, slice s az.length t), (8, int .i64 a2), (10, slice y aW.length A), (11, int .i64 a4), (18, int .i64 bE), (76, bool cl)] ?_ fun _ ea ca=>?_
 refine have H:=hC;dC (ck = true) (fun bQ=>?_) fun bQ=>?_
 refine yK bQ H fun H=>mv (hw:=gY z z z (vY bQ)) z<|bA (hw:=gY z z z (vY bQ)) z z<|bR (vY bQ) z<|nl<|?_
 cases H
 exact je ⟨z, z, z, z, z, z, z, z, tv⟩ b9
 refine nK bQ H fun H=>Sk 2 z z (vN bQ) z<|b7 (vN bQ) z<|nl<|?_
 cases H
 exact je ⟨z, z, z, z, z, z, z, z, tv⟩ b9
 refine mv z<|bK H fun cm hC H=>js 3 ca [(4, slice o Z.length p), (5, int .i64 a1), (7, slice s az.length t), (8, int .i64 a2), (10, slice y aW.length A), (11, int .i64 a4), (80, bool cm)] ?_ fun _ eb cb=>?_
 refine have H:=hC;dC (cl = true) (fun bS=>?_) fun bS=>?_
 refine yK bS H fun H=>mv (hw:=gY z z z (vY bS)) z<|bA (hw:=gY z z z (vY bS)) z z<|bR (vY bS) z<|nl<|?_
 cases H
 exact je ⟨z, z, z, z, z, z, z, tv⟩ ca
 refine nK bS H fun H=>Sk 2 z z (vN bS) z<|b7 (vN bS) z<|nl<|?_
 cases H
 exact je ⟨z, z, z, z, z, z, z, tv⟩ ca
 refine aj z<|nl<|dd _ _ _<|sr fun ec dg=>mv z<|mv z<|bK H fun cn hC H=>js 7 cb [(5, int .i64 a1), (7, slice s az.length t), (8, int .i64 a2), (10, slice y aW.length A), (11, int .i64 a4), (89, bool cn)] ?_ fun _ ed cc=>?_
 refine have H:=hC;dC (cm = true) (fun bz=>?_) fun bz=>?_
 refine yK bz H fun H=>mv (hw:=gY z z z (vY bz)) z<|bO (hw:=gY z z z (vY bz)) (vs := [(0, string (⟨#[97, 98]⟩ : ByteArray)), (1, int .i64 30), (3, int .i64 20), (4, int .i64 12)]) (cs := [string (⟨#[97, 98]⟩ : ByteArray), int .i64 30, int .i64 0, int .i64 20, int .i64 12]) oX uv z z<|bO (hw:=gY z z z (vY bz)) (vs := [(0, string (⟨#[99, 100]⟩ : ByteArray)), (1, int .i64 30), (2, int .i64 12), (3, int .i64 20), (4, int .i64 12)]) (cs := [string (⟨#[99, 100]⟩ : ByteArray), int .i64 30, int .i64 12, int .i64 20, int .i64 12]) oX uv z z<|bO (hw:=gY z z z (vY bz)) (vs := [(0, string (⟨#[101, 102]⟩ : ByteArray)), (2, int .i64 24), (3, int .i64 20), (4, int .i64 12)]) (cs := [string (⟨#[101, 102]⟩ : ByteArray), int .i64 0, int .i64 24, int .i64 20, int .i64 12]) oX uv z z<|?_
 refine mm cb (vs := [(0, agg [string (⟨#[97, 98]⟩ : ByteArray), int .i64 30, int .i64 0, int .i64 20, int .i64 12].toArray), (1, agg [string (⟨#[99, 100]⟩ : ByteArray), int .i64 30, int .i64 12, int .i64 20, int .i64 12].toArray), (2, agg [string (⟨#[101, 102]⟩ : ByteArray), int .i64 0, int .i64 24, int .i64 20, int .i64 12].toArray)]) (cs := [string (⟨#[97, 98]⟩ : ByteArray), int .i64 30, int .i64 0, int .i64 20, int .i64 12, string (⟨#[99, 100]⟩ : ByteArray), int .i64 30, int .i64 12, int .i64 20, int .i64 12, string (⟨#[101, 102]⟩ : ByteArray), int .i64 0, int .i64 24, int .i64 20, int .i64 12]) ut oX rfl (by decide) rfl rfl (fun ee ef dh => ?_) (hw := gY rfl rfl rfl (wC bz))
 obtain ⟨eg, co, di, dj⟩ := Hp.publish (xs := ([(⟨(⟨#[97, 98]⟩ : ByteArray), 30, 0, 20, 12⟩ : an), (⟨(⟨#[99, 100]⟩ : ByteArray), 30, 12, 20, 12⟩ : an), (⟨(⟨#[101, 102]⟩ : ByteArray), 0, 24, 20, 12⟩ : an)] : List an)) (n := 3) b6 dh ⟨[string (⟨#[97, 98]⟩ : ByteArray), int .i64 30, int .i64 0, int .i64 20, int .i64 12], _, rfl, (iZ (x := (⟨(⟨#[97, 98]⟩ : ByteArray), 30, 0, 20, 12⟩ : an))), ⟨[string (⟨#[99, 100]⟩ : ByteArray), int .i64 30, int .i64 12, int .i64 20, int .i64 12], _, rfl, (iZ (x := (⟨(⟨#[99, 100]⟩ : ByteArray), 30, 12, 20, 12⟩ : an))), ⟨[string (⟨#[101, 102]⟩ : ByteArray), int .i64 0, int .i64 24, int .i64 20, int .i64 12], _, rfl, (iZ (x := (⟨(⟨#[101, 102]⟩ : ByteArray), 0, 24, 20, 12⟩ : an))), rfl⟩⟩⟩ rfl
 refine bK H fun eh dk H=>cv (hw:=gY z z z (vY bz)) Dd (j0 (a6 := ([(⟨(⟨#[97, 98]⟩ : ByteArray), 30, 0, 20, 12⟩ : an), (⟨(⟨#[99, 100]⟩ : ByteArray), 30, 12, 20, 12⟩ : an), (⟨(⟨#[101, 102]⟩ : ByteArray), 0, 24, 20, 12⟩ : an)] : List an)) dk di a7 (Dat.mono (gT (gT (gT (gT u v) F) I) co) a8) (show ([(⟨(⟨#[97, 98]⟩ : ByteArray), 30, 0, 20, 12⟩ : an), (⟨(⟨#[99, 100]⟩ : ByteArray), 30, 12, 20, 12⟩ : an), (⟨(⟨#[101, 102]⟩ : ByteArray), 0, 24, 20, 12⟩ : an)] : List an).length ≤ 3 from Nat.le_of_ble_eq_true z) dj) z z fun ei dl=>bR (vY bz) z<|nl<|have dm:=Hp.pick 9 [1, 2, 3, 4, 5, 6, 7, 8] dl z;?_
 cases H
 exact je ⟨z, z, z, z, z, z, tv⟩ (Hp.low co dm)
 refine nK bz H fun H=>Sk 6 z z (vN bz) z<|b7 (vN bz) z<|nl<|?_
 cases H
 exact je ⟨z, z, z, z, z, z, tv⟩ cb
 refine mv z<|bK H fun cp hC H=>js 3 cc [(7, slice s az.length t), (8, int .i64 a2), (10, slice y aW.length A), (11, int .i64 a4), (93, bool cp)] ?_ fun _ ej cd=>?_
 refine have H:=hC;dC (cn = true) (fun bT=>?_) fun bT=>?_
 refine yK bT H fun H=>mv (hw:=gY z z z (vY bT)) z<|bA (hw:=gY z z z (vY bT)) z z<|bR (vY bT) z<|nl<|?_
 cases H
 exact je ⟨z, z, z, z, z, tv⟩ cc
 refine nK bT H fun H=>Sk 2 z z (vN bT) z<|b7 (vN bT) z<|nl<|?_
 cases H
 exact je ⟨z, z, z, z, z, tv⟩ cc
 refine aj z<|nl<|dg _ _ _<|sr fun ek dn=>mv z<|mv z<|bK H fun cq hC H=>js 6 cd [(8, int .i64 a2), (10, slice y aW.length A), (11, int .i64 a4), (101, bool cq)] ?_ fun _ el ce=>?_
 refine have H:=hC;dC (cp = true) (fun bF=>?_) fun bF=>?_
 refine yK bF H fun H=>mv (hw:=gY z z z (vY bF)) z<|bO (hw:=gY z z z (vY bF)) (vs := [(0, string (⟨#[97, 98, 32, 99, 100]⟩ : ByteArray)), (2, int .i64 20), (3, int .i64 50), (4, int .i64 12)]) (cs := [string (⟨#[97, 98, 32, 99, 100]⟩ : ByteArray), int .i64 0, int .i64 20, int .i64 50, int .i64 12]) oX uv z z<|bO (hw:=gY z z z (vY bF)) (vs := [(0, string (⟨#[101, 102]⟩ : ByteArray)), (2, int .i64 32), (3, int .i64 20), (4, int .i64 12)]) (cs := [string (⟨#[101, 102]⟩ : ByteArray), int .i64 0, int .i64 32, int .i64 20, int .i64 12]) oX uv z z<|?_
 refine mm cd (vs := [(0, agg [string (⟨#[97, 98, 32, 99, 100]⟩ : ByteArray), int .i64 0, int .i64 20, int .i64 50, int .i64 12].toArray), (1, agg [string (⟨#[101, 102]⟩ : ByteArray), int .i64 0, int .i64 32, int .i64 20, int .i64 12].toArray)]) (cs := [string (⟨#[97, 98, 32, 99, 100]⟩ : ByteArray), int .i64 0, int .i64 20, int .i64 50, int .i64 12, string (⟨#[101, 102]⟩ : ByteArray), int .i64 0, int .i64 32, int .i64 20, int .i64 12]) ut oX rfl (by decide) rfl rfl (fun em en dp => ?_) (hw := gY rfl rfl rfl (wC bF))
 obtain ⟨eo, cr, dq, dr⟩ := Hp.publish (xs := ([(⟨(⟨#[97, 98, 32, 99, 100]⟩ : ByteArray), 0, 20, 50, 12⟩ : an), (⟨(⟨#[101, 102]⟩ : ByteArray), 0, 32, 20, 12⟩ : an)] : List an)) (n := 2) b6 dp ⟨[string (⟨#[97, 98, 32, 99, 100]⟩ : ByteArray), int .i64 0, int .i64 20, int .i64 50, int .i64 12], _, rfl, (iZ (x := (⟨(⟨#[97, 98, 32, 99, 100]⟩ : ByteArray), 0, 20, 50, 12⟩ : an))), ⟨[string (⟨#[101, 102]⟩ : ByteArray), int .i64 0, int .i64 32, int .i64 20, int .i64 12], _, rfl, (iZ (x := (⟨(⟨#[101, 102]⟩ : ByteArray), 0, 32, 20, 12⟩ : an))), rfl⟩⟩ rfl
 refine bK H fun ep ds H=>cv (hw:=gY z z z (vY bF)) Dd (j0 (a6 := ([(⟨(⟨#[97, 98, 32, 99, 100]⟩ : ByteArray), 0, 20, 50, 12⟩ : an), (⟨(⟨#[101, 102]⟩ : ByteArray), 0, 32, 20, 12⟩ : an)] : List an)) ds dq a9 (Dat.mono (gT (gT (gT v F) I) cr) ba) (show ([(⟨(⟨#[97, 98, 32, 99, 100]⟩ : ByteArray), 0, 20, 50, 12⟩ : an), (⟨(⟨#[101, 102]⟩ : ByteArray), 0, 32, 20, 12⟩ : an)] : List an).length ≤ 2 from Nat.le_of_ble_eq_true z) dr) z z fun eq dt=>bR (vY bF) z<|nl<|have du:=Hp.pick 9 [1, 2, 3, 4, 5, 6, 7, 8] dt z;?_
 cases H
 exact je ⟨z, z, z, z, tv⟩ (Hp.low cr du)
 refine nK bF H fun H=>Sk 5 z z (vN bF) z<|b7 (vN bF) z<|nl<|?_
 cases H
 exact je ⟨z, z, z, z, tv⟩ cd
 refine mv z<|bK H fun ct hC H=>js 3 ce [(10, slice y aW.length A), (11, int .i64 a4), (105, bool ct)] ?_ fun _ er cf=>?_
 refine have H:=hC;dC (cq = true) (fun bU=>?_) fun bU=>?_
 refine yK bU H fun H=>mv (hw:=gY z z z (vY bU)) z<|bA (hw:=gY z z z (vY bU)) z z<|bR (vY bU) z<|nl<|?_
 cases H
 exact je ⟨z, z, z, tv⟩ ce
 refine nK bU H fun H=>Sk 2 z z (vN bU) z<|b7 (vN bU) z<|nl<|?_
 cases H
 exact je ⟨z, z, z, tv⟩ ce
 refine mv z<|bK H fun cu hC H=>js 4 cf [(11, int .i64 a4), (110, bool cu)] ?_ fun _ es cg=>?_
 refine have H:=hC;dC (ct = true) (fun bI=>?_) fun bI=>?_
 refine yK bI H fun H=>mv (hw:=gY z z z (vY bI)) z<|q_len (hw:=gY z z z (vY bI)) yh z<|bA (hw:=gY z z z (vY bI)) z z<|bR (vY bI) z<|nl<|?_
 cases H
 exact je ⟨z, z, tv⟩ cf
 refine nK bI H fun H=>Sk 3 z z (vN bI) z<|b7 (vN bI) z<|nl<|?_
 cases H
 exact je ⟨z, z, tv⟩ cf
 refine mv z<|bK H fun dv hC H=>js 3 cg [(114, bool dv)] ?_ fun _ et dw=>?_
 refine have H:=hC;dC (cu = true) (fun bV=>?_) fun bV=>?_
 refine yK bV H fun H=>mv (hw:=gY z z z (vY bV)) z<|bA (hw:=gY z z z (vY bV)) z z<|bR (vY bV) z<|nl<|?_
 cases H
 exact je ⟨z, tv⟩ cg
 refine nK bV H fun H=>Sk 2 z z (vN bV) z<|b7 (vN bV) z<|nl<|?_
 cases H
 exact je ⟨z, tv⟩ cg
 refine aj z<|nl<|dn _ _ _<|wr<|have dx:=Hp.pick 8 [] dw z;?_
 cases H
 exact rt ⟨_, _, z, z, z⟩ (Hp.low (gT (gT (gT (gT (gT (gT bX bW) q) u) v) F) I) dx)
theorem qC {a1 c d f g h G L w} (H : ls a1 = some h) (hI : Hp G L w) (n : a1.Glyphs.length ≤ d) (o : Dat au G c a1.Glyphs) (p : a1.Kerns.length ≤ g) (q : Dat ay G f a1.Kerns) :
    Calls Tryz.prog 26 [agg [slice c a1.Glyphs.length d, slice f a1.Kerns.length g].toArray].toArray w fun e w' => Hp G L w' ∧ e = .returned (bool h) := by
 refine ac (N := 13) Tryz.func26 z z (Nat.le_of_ble_eq_true z)<|?_
 unfold ls at H
 refine sr fun r i=>io hI z z fun s t b=>aj z<|nl<|i _ _ _<|sr fun u j=>fa kK z<|ld b 0 rd z z z<|q_len wO z<|eI z z<|mv z<|bK H fun k hC H=>js 5 b [(12, bool k)] ?_ fun _ v l=>?_
 refine have H:=hC;dC ((a1.Glyphs.length : Int) ≤ 100) (fun a=>?_) fun a=>?_
 refine yK a H fun H=>fa (hw:=gY z z z (bY a)) kX z<|ld (hw:=gY z z z (bY a)) b 0 qV z z z<|q_len (hw:=gY z z z (bY a)) x6 z<|eI (hw:=gY z z z (bY a)) z z<|bR (bY a) z<|nl<|?_
 cases H
 exact je ⟨z, tv⟩ b
 refine nK a H fun H=>Sk 4 z z (bN a) z<|b7 (bN a) z<|nl<|?_
 cases H
 exact je ⟨z, tv⟩ b
 refine aj z<|nl<|j _ _ _<|wr<|have m:=Hp.pick 1 [] l z;?_
 cases H
 exact rt ⟨_, _, z, z, z⟩ m
theorem qw {a1 a10 c i j k l d f m G L w} (H : j1 a1 a10 c = some m) (hI : Hp G L w) (p : a1.Glyphs.length ≤ j) (q : Dat au G i a1.Glyphs) (r : a1.Kerns.length ≤ l) (s : Dat ay G k a1.Kerns) (C : c.length ≤ f) (D : Dat bm G d c) :
    Calls Tryz.prog 11 [agg [slice i a1.Glyphs.length j, slice k a1.Kerns.length l].toArray, string a10, slice d c.length f].toArray w fun e w' => Hp G L w' ∧ e = .returned (bool m) := by
 refine ac (N := 19) Tryz.func11 z z (Nat.le_of_ble_eq_true z)<|?_
 unfold j1 at H
 refine sr fun E t=>io hI z z fun F I n=>aj z<|nl<|t _ _ _<|sr fun J u=>d9 n 0 fw z z z z<|bK H fun v x H=>cv bo26 (qC x n p q r s) z z fun K g=>mv z<|bK H fun o hC H=>js 4 g [(2, slice d c.length f), (13, bool o)] ?_ fun _ M h=>?_
 refine have H:=hC;dC (v = true) (fun a=>?_) fun a=>?_
 refine yK a H fun H=>mv (hw:=gY z z z (vY a)) z<|cX (hw:=gY z z z (vY a)) fA z<|eI (hw:=gY z z z (vY a)) z z<|bR (vY a) z<|nl<|?_
 cases H
 exact je ⟨z, z, tv⟩ g
 refine nK a H fun H=>Sk 3 z z (vN a) z<|b7 (vN a) z<|nl<|?_
 cases H
 exact je ⟨z, z, tv⟩ g
 refine mv z<|bK H fun y hC H=>js 4 h [(18, bool y)] ?_ fun _ O A=>?_
 refine have H:=hC;dC (o = true) (fun b=>?_) fun b=>?_
 refine yK b H fun H=>mv (hw:=gY z z z (vY b)) z<|q_len (hw:=gY z z z (vY b)) vO z<|eI (hw:=gY z z z (vY b)) z z<|bR (vY b) z<|nl<|?_
 cases H
 exact je ⟨z, tv⟩ h
 refine nK b H fun H=>Sk 3 z z (vN b) z<|b7 (vN b) z<|nl<|?_
 cases H
 exact je ⟨z, tv⟩ h
 refine aj z<|nl<|u _ _ _<|wr<|have B:=Hp.pick 1 [] A z;?_
 cases H
 exact rt ⟨_, _, z, z, z⟩ B
theorem pD {a1 a10 g a a17 h i j k l m n o c p q G L w} (H : iW a1 a10 g a a17 = some (c, p, q)) (hI : Hp G L w) (s : a1.Glyphs.length ≤ i) (t : Dat au G h a1.Glyphs) (u : a1.Kerns.length ≤ k) (v : Dat ay G j a1.Kerns) (x : a10.Keep.length ≤ m) (y : Dat Kd.str G l a10.Keep) (A : a17.length ≤ o) (B : Dat bm G n a17) (r : Gl G) :
    Calls Tryz.prog 12 [agg [slice h a1.Glyphs.length i, slice j a1.Kerns.length k].toArray, agg [int .i64 a10.Before, int .i64 a10.Behind, slice l a10.Keep.length m].toArray, string g, agg [int .i64 a.Scale, int .i64 a.Line, int .i64 a.Align, int .i64 a.Dir, int .i64 a.Width, int .i64 a.Y].toArray, slice n a17.length o].toArray w fun e w' => ∃ (d : Option Addr) (f : Nat) (G' : Gh), G ≤ G' ∧ Hp G' (tk (slice d c.length f) 5 50 :: L) w' ∧ c.length ≤ f ∧ Dat b6 G' d c ∧ Own d f ∧ e = .returned (tuple [slice d c.length f, int .i64 p, int .i64 q].toArray) := by
 refine ac (N := 33) Tryz.func12 z z (Nat.le_of_ble_eq_true z)<|?_
 unfold iW at H
 refine sr fun T C=>io hI z z fun U V D=>io D z z fun W X E=>io E z z fun Z aa b=>aj z<|aj z<|aj z<|nl<|C _ _ _<|sr fun ab F=>d9 b 2 fw z z z z<|d9 b 1 jT z z z z<|mv z<|fa Bz z<|?_
 refine ld b 0 bv z z z<|fa AY z<|ld b 0 bv z z z<|fa zZ z<|ld b 0 bv z z z<|fa Bb z<|ld b 0 bv z z z<|fa An z<|ld b 0 bv z z z<|fa Ah z<|ld b 0 bv z z z<|mv z<|xr H fun ad ae af I H=>fU (vs := [agg [slice h a1.Glyphs.length i, slice j a1.Kerns.length k].toArray, agg [int .i64 a10.Before, int .i64 a10.Behind, slice l a10.Keep.length m].toArray, string g, int .i64 a.Scale, int .i64 a.Line, int .i64 a.Align, int .i64 a.Dir, int .i64 a.Width, int .i64 a.Y, slice n a17.length o]) zQ z z (ib I b s t u v x y A B (r.mono gR))<|?_
 rintro _ ag ⟨J, K, ah, M, O, P, Q, R, rfl⟩
 refine ⟨_, rfl, ?_⟩
 refine cK z z<|cK z z<|cK z z<|aj z<|aj z<|aj z<|nl<|F _ _ _<|wr<|have S:=Hp.pick 4 [0] O z;?_
 cases H
 exact ⟨.inr z, z, _, ⟨_, _, z, z, ⟨_, _, z, z, ⟨_, _, z, z, z⟩⟩⟩, J, K, _, M, S, P, Q, R, z⟩
theorem dS {a1 o G L w} (H : da a1 = some o) (hI : Hp G L w) :
    Calls Tryz.prog 22 [int .u8 a1].toArray w fun e w' => Hp G L w' ∧ e = .returned (int .i64 o) := by
 refine ac (N := 31) Tryz.func22 z z (Nat.le_of_ble_eq_true z)<|?_
 unfold da at H
 refine sr fun U u=>aj z<|nl<|u _ _ _<|sQ fun V v=>sr fun W x=>mv z<|gM z z<|mv z<|bK H fun p hC H=>js 3 hI [(0, int .u8 a1), (8, bool p)] ?_ fun _ X m=>?_
 refine have H:=hC;dC (97 ≤ a1) (fun a=>?_) fun a=>?_
 refine yK a H fun H=>mv (hw:=gY z z z (bY a)) z<|eI (hw:=gY z z z (bY a)) z z<|bR (bY a) z<|nl<|?_
 cases H
 exact je ⟨z, z, tv⟩ hI
 refine nK a H fun H=>Sk 2 z z (bN a) z<|b7 (bN a) z<|nl<|?_
 cases H
 exact je ⟨z, z, tv⟩ hI
 refine nl<|x _ _ _<|dC (p = true) (fun g=>?_) fun g=>?_
 refine yK g H fun H=>wt (vY g)<|sr fun Y y=>aj z<|nl<|y _ _ _<|wr<|?_
 cases H
 exact rt ⟨_, _, z, z, z⟩ m
 refine nK g H fun H=>wf (vN g)<|ws<|v _ _ _<|sQ fun Z A=>sr fun aa B=>mv z<|gM z z<|mv z<|bK H fun q hC H=>js 3 m [(0, int .u8 a1), (14, bool q)] ?_ fun _ ab n=>?_
 refine have H:=hC;dC (65 ≤ a1) (fun b=>?_) fun b=>?_
 refine yK b H fun H=>mv (hw:=gY z z z (bY b)) z<|eI (hw:=gY z z z (bY b)) z z<|bR (bY b) z<|nl<|?_
 cases H
 exact je ⟨z, z, tv⟩ m
 refine nK b H fun H=>Sk 2 z z (bN b) z<|b7 (bN b) z<|nl<|?_
 cases H
 exact je ⟨z, z, tv⟩ m
 refine nl<|B _ _ _<|dC (q = true) (fun h=>?_) fun h=>?_
 refine yK h H fun H=>wt (vY h)<|sr fun ad C=>aj z<|nl<|C _ _ _<|wr<|?_
 cases H
 exact rt ⟨_, _, z, z, z⟩ n
 refine nK h H fun H=>wf (vN h)<|ws<|A _ _ _<|sQ fun ae D=>sr fun af E=>mv z<|gM z z<|mv z<|bK H fun r hC H=>js 3 n [(0, int .u8 a1), (20, bool r)] ?_ fun _ ag f=>?_
 refine have H:=hC;dC (48 ≤ a1) (fun c=>?_) fun c=>?_
 refine yK c H fun H=>mv (hw:=gY z z z (bY c)) z<|eI (hw:=gY z z z (bY c)) z z<|bR (bY c) z<|nl<|?_
 cases H
 exact je ⟨z, z, tv⟩ n
 refine nK c H fun H=>Sk 2 z z (bN c) z<|b7 (bN c) z<|nl<|?_
 cases H
 exact je ⟨z, z, tv⟩ n
 refine nl<|E _ _ _<|dC (r = true) (fun i=>?_) fun i=>?_
 refine yK i H fun H=>wt (vY i)<|sr fun ah F=>aj z<|nl<|F _ _ _<|wr<|?_
 cases H
 exact rt ⟨_, _, z, z, z⟩ f
 refine nK i H fun H=>wf (vN i)<|ws<|D _ _ _<|sQ fun ai I=>sr fun ak J=>mv z<|bA z z<|nl<|J _ _ _<|dC (a1 = 32) (fun j=>?_) fun j=>?_
 refine yK j H fun H=>wt (bY j)<|sr fun al K=>aj z<|nl<|K _ _ _<|wr<|?_
 cases H
 exact rt ⟨_, _, z, z, z⟩ f
 refine nK j H fun H=>wf (bN j)<|ws<|I _ _ _<|sQ fun am M=>sr fun an O=>mv z<|bA z z<|nl<|O _ _ _<|dC (a1 = 126) (fun k=>?_) fun k=>?_
 refine yK k H fun H=>wt (bY k)<|sr fun ao P=>aj z<|nl<|P _ _ _<|wr<|?_
 cases H
 exact rt ⟨_, _, z, z, z⟩ f
 refine nK k H fun H=>wf (bN k)<|ws<|M _ _ _<|sQ fun ap Q=>sr fun aq R=>mv z<|cc z z<|mv z<|bK H fun s hC H=>js 3 f [(30, bool s)] ?_ fun _ ar t=>?_
 refine have H:=hC;dC (32 < a1) (fun d=>?_) fun d=>?_
 refine yK d H fun H=>mv (hw:=gY z z z (bY d)) z<|aN (hw:=gY z z z (bY d)) z z<|bR (bY d) z<|nl<|?_
 cases H
 exact je ⟨z, tv⟩ f
 refine nK d H fun H=>Sk 2 z z (bN d) z<|b7 (bN d) z<|nl<|?_
 cases H
 exact je ⟨z, tv⟩ f
 refine nl<|R _ _ _<|dC (s = true) (fun l=>?_) fun l=>?_
 refine yK l H fun H=>wt (vY l)<|sr fun au S=>aj z<|nl<|S _ _ _<|wr<|?_
 cases H
 exact rt ⟨_, _, z, z, z⟩ t
 refine nK l H fun H=>wf (vN l)<|ws<|Q _ _ _<|sr fun av T=>aj z<|nl<|T _ _ _<|wr<|?_
 cases H
 exact rt ⟨_, _, z, z, z⟩ t
theorem cH {a1 g G L w} (H : cz a1 = some g) (hI : Hp G L w) :
    Calls Tryz.prog 46 [string a1].toArray w fun e w' => Hp G L w' ∧ e = .returned (bool g) := by
 refine ac (N := 18) Tryz.func46 z z (Nat.le_of_ble_eq_true z)<|?_
 unfold cz at H
 refine sr fun D k=>aj z<|nl<|k _ _ _<|sQ fun E l=>sr fun F m=>aj z<|nl<|m _ _ _<|wb<|bK H fun d hC H=>aq (Q := fun e r ds w => match (generalizing := false) d with | (Sum.inl _) => e = .ret ∧ ds = [] ∧ Has [(2, bool false)] r ∧ Hp G (L) w ∧ True | (Sum.inr _) => e = .exit 0 ∧ ds = [] ∧ Has [(0, string a1)] r ∧ Hp G (L) w ∧ True) ?_ ?_
 refine aB fun I j=>?_
 refine eA.partial_correctness a1 (fun f o => ∀ (r : Rg) (w : World), Has [(0, string a1), (3, int .i64 f)] r → Hp G (L) w → o = d → I r [] w) ?_ 0 _ hC _ _ ⟨rfl, rfl, tv⟩ hI rfl
 intro _ ih f o H r J a h ho
 rw [ho] at H; clear ho
 rw [a.eq]; clear a
 refine j _ _ _<|sQ fun K n=>sr fun M p=>mv z<|mv z<|cX fA z<|aN z z<|nl<|p _ _ _<|dC (f < (a1.size : Int)) (fun b=>?_) fun b=>?_
 refine yK b H fun H=>wt (bY b)<|ws<|n _ _ _<|sQ fun O q=>wb<|sr fun P s=>mv z<|mv z<|iK H fun⟨t, u⟩H=>gc fA z z t u z<|bK H fun v x H=>cv yZ (dS x h) z z fun R i=>bA z z<|?_
 refine nl<|s _ _ _<|dC (v = 0) (fun c=>?_) fun c=>?_
 refine yK c H fun H=>wt (bY c)<|sr fun S y=>aj z<|nl<|y _ _ _<|wr<|?_
 cases H
 exact ⟨z, z, ⟨z, tv⟩, i, tv⟩
 exact nK c H fun H=>wf (bN c)<|ws<|q _ _ _<|ae<|mv z<|ba z z<|aj z<|nl<|ih _ _ H _ _ ⟨z, z, tv⟩ i z
 refine nK b H fun H=>wf (bN b)<|wx<|?_
 cases H
 exact ⟨z, z, ⟨z, tv⟩, h, tv⟩
 rcases d with _ | _
 rintro e r ds T ⟨rfl, rfl, a, A, _⟩
 rw [a.eq]; clear a
 cases H
 exact rt ⟨_, _, z, z, z⟩ A
 rintro e r ds U ⟨rfl, rfl, a, B, _⟩
 rw [a.eq]; clear a
 refine l _ _ _<|sr fun V C=>mv z<|cX fA z<|eI z z<|aj z<|nl<|C _ _ _<|wr<|?_
 cases H
 exact rt ⟨_, _, z, z, z⟩ B
theorem lZ {a1 y G L w} (H : gB a1 = some y) (hI : Hp G L w) :
    Calls Tryz.prog 47 [string a1].toArray w fun e w' => Hp G L w' ∧ e = .returned (string y) := by
 refine ac (N := 23) Tryz.func47 z z (Nat.le_of_ble_eq_true z)<|?_
 unfold gB at H
 refine sr fun K2 E=>aj z<|nl<|E _ _ _<|sr fun K4 F=>aj z<|nl<|F _ _ _<|sQ fun K6 J=>sr fun K8 K=>aj z<|nl<|K _ _ _<|wb<|?_
 refine bK H fun i hC H=>aq (Q := fun e r ds w => e = .exit 0 ∧ ∃ (j : Option Addr) (k : Nat) (p : Gh), ds = [] ∧ G ≤ p ∧ Has [(3, slice j i.length k)] r ∧ Hp p (tk (slice j i.length k) 1 5 :: L) w ∧ i.length ≤ k ∧ Dat (Kd.int .u8) p j i ∧ Own j k ∧ True) ?_ ?_
 refine have M:=Hp.emp hI;aB fun I D=>?_
 refine eK.partial_correctness a1 (fun f a o => ∀ (c : Option Addr) (d : Nat) (l : Gh) (r : Rg) (w : World), G ≤ l → Has [(0, string a1), (3, slice c f.length d), (4, int .i64 a)] r → Hp l (tk (slice c f.length d) 1 5 :: L) w → f.length ≤ d → Dat (Kd.int .u8) l c f → Own c d → o = i → I r [] w) ?_ ([] : List Int) 0 _ hC none 0 _ _ _ gR ⟨rfl, rfl, rfl, tv⟩ M (show ([] : List Int).length ≤ 0 from Nat.le_refl 0) (Dat.nil _ _ _) Own.nil rfl
 intro _ ih f a o H c d l r ay A b t u v x ho
 rw [ho] at H; clear ho
 rw [b.eq]; clear b
 refine D _ _ _<|sQ fun az O=>sr fun aA P=>mv z<|mv z<|cX fA z<|aN z z<|nl<|P _ _ _<|dC (a < (a1.size : Int)) (fun m=>?_) fun m=>?_
 refine yK m H fun H=>wt (bY m)<|ws<|O _ _ _<|sQ fun aC R=>bK H fun q hC H=>?_
 refine aq (Q := fun e r ds w => e = .normal ∧ ∃ (g : Option Addr) (h : Nat) (s : Gh), ds = [] ∧ l ≤ s ∧ Has [(0, string a1), (3, slice g q.length h), (4, int .i64 a)] r ∧ Hp s (tk (slice g q.length h) 1 5 :: L) w ∧ q.length ≤ h ∧ Dat (Kd.int .u8) s g q ∧ Own g h ∧ True) ?_ ?_
 refine have H:=hC;wb<|sr fun aD S=>mv z<|mv z<|iK H fun⟨T, U⟩H=>gc fA z z T U z<|dW z z<|nl<|S _ _ _<|dC (¬ (bt a1 a) = 126) (fun n=>?_) fun n=>?_
 refine yK n H fun H=>wt (bY n)<|ae<|mv z<|mv z<|mv z<|iK H fun⟨V, W⟩H=>gc fA z z V W z<|?_
 refine mm t (vs := [(0, int .u8 (bt a1 a))]) (cs := [int .u8 (bt a1 a)]) jM Ad rfl (by decide) rfl rfl (fun aE aF B => ?_)
 refine iK H fun aG H=>?_
 refine lu (xs := f) (ys := [bt a1 a]) (Kd.int .u8) B 1 jM Ad rfl rfl rfl rfl x u v (jF B 0 sd rfl rfl) ⟨[int .u8 (bt a1 a)], _, rfl, rfl, rfl⟩ rfl (by simp only [List.length_cons, List.length_nil]; omega) (by simp only [List.length_cons, List.length_nil]; omega) (fun X Y aH aI Z aa ab ad af => ?_)
 refine aj z<|nl<|have ag:=Hp.pick 2 [1] af z;?_
 cases H
 exact ⟨z, X, Y, _, z, Z, ⟨z, z, z, tv⟩, ag, ab, ad, aa, tv⟩
 refine nK n H fun H=>wf (bN n)<|ws<|?_
 cases H
 exact ⟨z, c, d, _, z, gR, ⟨z, z, z, tv⟩, t, u, v, x, tv⟩
 rintro e r ds aJ ⟨rfl, g, h, s, rfl, ah, b, ai, ak, al, am, _⟩
 rw [b.eq]; clear b
 exact R _ _ _<|ae<|mv z<|ba z z<|aj z<|nl<|ih _ _ _ H g h _ _ _ (gT A ah) ⟨z, z, z, tv⟩ ai ak al am z
 refine nK m H fun H=>wf (bN m)<|wx<|?_
 cases H
 exact ⟨z, c, d, _, z, A, ⟨z, tv⟩, t, u, v, x, tv⟩
 rintro e r ds aK ⟨rfl, j, k, p, rfl, an, b, C, aL, ao, aM, _⟩
 rw [b.eq]; clear b
 refine J _ _ _<|sr fun aO ap=>mv z<|wa C jM Az fA z z ao<|aj z<|nl<|ap _ _ _<|wr<|have ar:=Hp.pick 1 [] C z;?_
 cases H
 exact rt ⟨_, _, z, z, z⟩ (Hp.low an ar)
theorem gV {a1 l m G L w} (H : dG a1 = some (l, m)) (hI : Hp G L w) :
    Calls Tryz.prog 20 [string a1].toArray w fun e w' => Hp G L w' ∧ e = .returned (tuple [int .i64 l, int .i64 m].toArray) := by
 refine ac (N := 36) Tryz.func20 z z (Nat.le_of_ble_eq_true z)<|?_
 unfold dG at H
 refine sr fun K2 u=>aj z<|aj z<|nl<|u _ _ _<|sQ fun K4 v=>sr fun K6 x=>mv z<|bK H fun y A H=>cv xh (cH A hI) z z fun ah n=>be z<|nl<|x _ _ _<|dC ((!y) = true) (fun h=>?_) fun h=>?_
 refine yK h H fun H=>wt (vY h)<|sr fun ai B=>aj z<|aj z<|nl<|B _ _ _<|wr<|?_
 cases H
 exact rt ⟨_, _, z, z, ⟨_, _, z, z, z⟩⟩ n
 refine nK h H fun H=>wf (vN h)<|ws<|v _ _ _<|sr fun ak C=>mv z<|bK H fun d D H=>cv EZ (lZ D n) z z fun al E=>aj z<|nl<|C _ _ _<|sr fun am F=>aj z<|nl<|?_
 refine F _ _ _<|sQ fun an J=>sr fun ao K=>aj z<|nl<|K _ _ _<|wb<|bK H fun p hC H=>aq (Q := fun e r ds w => e = .exit 0 ∧ ds = [] ∧ Has [(5, int .i64 p)] r ∧ Hp G (L) w ∧ True) ?_ ?_
 refine aB fun I t=>?_
 refine eN.partial_correctness d (fun k a o => ∀ (r : Rg) (w : World), Has [(4, string d), (5, int .i64 k), (6, int .i64 a)] r → Hp G (L) w → o = p → I r [] w) ?_ 0 0 _ hC _ _ ⟨rfl, rfl, rfl, tv⟩ E rfl
 intro _ ih k a o H r ap g f ho
 rw [ho] at H; clear ho
 rw [g.eq]; clear g
 refine t _ _ _<|sQ fun ar M=>sr fun au O=>mv z<|mv z<|cX fA z<|aN z z<|nl<|O _ _ _<|dC (a < (d.size : Int)) (fun i=>?_) fun i=>?_
 refine yK i H fun H=>wt (bY i)<|ws<|M _ _ _<|sQ fun av P=>bK H fun R hC H=>jc .normal f [(4, string d), (5, int .i64 R), (6, int .i64 a)] ?_ fun _ aw S=>?_
 refine have H:=hC;wb<|sr fun ax T=>mv z<|mv z<|iK H fun⟨U, V⟩H=>gc fA z z U V z<|dW z z<|mv z<|bK H fun q hC H=>js 10 f [(4, string d), (5, int .i64 k), (6, int .i64 a), (32, bool q)] ?_ fun _ ay s=>?_
 refine have H:=hC;dC (¬ (bt d a) = 32) (fun b=>?_) fun b=>?_
 refine yK b H fun H=>mv (hw:=gY z z z (bY b)) z<|bA (hw:=gY z z z (bY b)) z z<|mv (hw:=gY z z z (bY b)) z<|bK H fun W hC H=>js 6 f [(4, string d), (5, int .i64 k), (6, int .i64 a), (22, bool (decide (¬ (bt d a) = 32))), (23, int .i64 a), (24, bool (decide (a = 0))), (25, bool (decide (a = 0))), (31, bool W)] ?_ fun _ az X=>?_
 refine have H:=hC;dC (a = 0) (fun c=>?_) fun c=>?_
 refine yK c H fun H=>Sk 5 z z (bY c) z<|bR (hw:=gY z z z (bY b)) (bY c) z<|nl<|?_
 cases H
 exact je ⟨z, z, z, z, z, z, z, z, tv⟩ f
 refine nK c H fun H=>mv (hw:=gY z z z (bN c)) z<|mv (hw:=gY z z z (bN c)) z<|dl (hw:=gY z z z (bN c)) z z<|iK H fun⟨Y, Z⟩H=>gc (hw:=gY z z z (bN c)) fA z z Y Z z<|bA (hw:=gY z z z (bN c)) z z<|b7 (hw:=gY z z z (bY b)) (bN c) z<|nl<|?_
 cases H
 exact je ⟨z, z, z, z, z, z, z, z, tv⟩ f
 refine bR (bY b) z<|nl<|?_
 cases H
 exact je ⟨z, z, z, z, tv⟩ X
 refine nK b H fun H=>Sk 3 z z (bN b) z<|Su 5 z<|wN (gN z z z (bN b) z)<|b7 (bN b) z<|nl<|?_
 cases H
 exact je ⟨z, z, z, z, tv⟩ f
 refine nl<|T _ _ _<|dC (q = true) (fun j=>?_) fun j=>?_
 refine yK j H fun H=>wt (vY j)<|ae<|mv z<|ba z z<|aj z<|nl<|?_
 cases H
 exact je ⟨z, z, z, tv⟩ s
 refine nK j H fun H=>wf (vN j)<|ws<|?_
 cases H
 exact je ⟨z, z, z, tv⟩ s
 exact P _ _ _<|ae<|mv z<|ba z z<|aj z<|nl<|ih _ _ _ H _ _ ⟨z, z, z, tv⟩ S z
 refine nK i H fun H=>wf (bN i)<|wx<|?_
 cases H
 exact ⟨z, z, ⟨z, tv⟩, f, tv⟩
 rintro e r ds aA ⟨rfl, rfl, g, aa, _⟩
 rw [g.eq]; clear g
 refine J _ _ _<|sr fun aC ab=>mv z<|aj z<|aj z<|nl<|ab _ _ _<|wr<|?_
 cases H
 exact rt ⟨_, _, z, z, ⟨_, _, z, z, z⟩⟩ aa
theorem fW {a1 b G L w} (H : eb a1 = some b) (hI : Hp G L w) :
    Calls Tryz.prog 48 [int .i64 a1].toArray w fun e w' => Hp G L w' ∧ e = .returned (bool b) := by
 refine ac (N := 9) Tryz.func48 z z (Nat.le_of_ble_eq_true z)<|?_
 unfold eb at H
 refine sr fun h c=>aj z<|nl<|c _ _ _<|sr fun i d=>mv z<|gM z z<|mv z<|bK H fun f hC H=>js 3 hI [(8, bool f)] ?_ fun _ j g=>?_
 refine have H:=hC;dC (0 ≤ a1) (fun a=>?_) fun a=>?_
 refine yK a H fun H=>mv (hw:=gY z z z (bY a)) z<|eI (hw:=gY z z z (bY a)) z z<|bR (bY a) z<|nl<|?_
 cases H
 exact je ⟨z, tv⟩ hI
 refine nK a H fun H=>Sk 2 z z (bN a) z<|b7 (bN a) z<|nl<|?_
 cases H
 exact je ⟨z, tv⟩ hI
 refine aj z<|nl<|d _ _ _<|wr<|?_
 cases H
 exact rt ⟨_, _, z, z, z⟩ g
theorem mw {a1 b G L w} (H : il a1 = some b) (hI : Hp G L w) :
    Calls Tryz.prog 49 [int .i64 a1].toArray w fun e w' => Hp G L w' ∧ e = .returned (bool b) := by
 refine ac (N := 9) Tryz.func49 z z (Nat.le_of_ble_eq_true z)<|?_
 unfold il at H
 refine sr fun h c=>aj z<|nl<|c _ _ _<|sr fun i d=>mv z<|gM z z<|mv z<|bK H fun f hC H=>js 3 hI [(8, bool f)] ?_ fun _ j g=>?_
 refine have H:=hC;dC (0 ≤ a1) (fun a=>?_) fun a=>?_
 refine yK a H fun H=>mv (hw:=gY z z z (bY a)) z<|eI (hw:=gY z z z (bY a)) z z<|bR (bY a) z<|nl<|?_
 cases H
 exact je ⟨z, tv⟩ hI
 refine nK a H fun H=>Sk 2 z z (bN a) z<|b7 (bN a) z<|nl<|?_
 cases H
 exact je ⟨z, tv⟩ hI
 refine aj z<|nl<|d _ _ _<|wr<|?_
 cases H
 exact rt ⟨_, _, z, z, z⟩ g
theorem l4 {a1 a6 d f B G L w} (H : gu a1 a6 = some B) (hI : Hp G L w) (bc : a1.length ≤ f) (l : Dat bm G d a1) :
    Calls Tryz.prog 23 [slice d a1.length f, int .i64 a6].toArray w fun e w' => Hp G L w' ∧ e = .returned (bool B) := by
 refine ac (N := 80) Tryz.func23 z z (Nat.le_of_ble_eq_true z)<|?_
 unfold gu at H
 refine sr fun K7 al=>aj z<|nl<|al _ _ _<|sr fun K9 am=>mv z<|bK H fun an ao H=>cv AO (fW ao hI) z z fun bg t=>aj z<|nl<|am _ _ _<|sQ fun bh ap=>sr fun bi ar=>mv z<|?_
 refine be z<|mv z<|bK H fun C hC H=>js 4 t [(0, slice d a1.length f), (19, bool C)] ?_ fun _ bj D=>?_
 refine have H:=hC;dC ((!an) = true) (fun g=>?_) fun g=>?_
 refine yK g H fun H=>Sk 3 z z (vY g) z<|bR (vY g) z<|nl<|?_
 cases H
 exact je ⟨z, z, tv⟩ t
 refine nK g H fun H=>mv (hw:=gY z z z (vN g)) z<|q_len (hw:=gY z z z (vN g)) vO z<|cc (hw:=gY z z z (vN g)) z z<|b7 (vN g) z<|nl<|?_
 cases H
 exact je ⟨z, z, tv⟩ t
 refine nl<|ar _ _ _<|dC (C = true) (fun m=>?_) fun m=>?_
 refine yK m H fun H=>wt (vY m)<|sr fun bk au=>aj z<|nl<|au _ _ _<|wr<|?_
 cases H
 exact rt ⟨_, _, z, z, z⟩ D
 refine nK m H fun H=>wf (vN m)<|ws<|ap _ _ _<|sQ fun bl av=>sr fun bn aw=>aj z<|nl<|aw _ _ _<|wb<|bK H fun u hC H=>aq (Q := fun e r ds w => match (generalizing := false) u with | (Sum.inl _) => e = .ret ∧ ds = [] ∧ Has [(4, bool false)] r ∧ Hp G (L) w ∧ True | (Sum.inr _) => e = .exit 0 ∧ ds = [] ∧ Has [] r ∧ Hp G (L) w ∧ True) ?_ ?_
 refine aB fun I ak=>?_
 refine dw.partial_correctness a1 (fun a o => ∀ (r : Rg) (w : World), Has [(0, slice d a1.length f), (6, int .i64 a)] r → Hp G (L) w → o = u → I r [] w) ?_ 0 _ hC _ _ ⟨rfl, rfl, tv⟩ D rfl
 intro _ ih a o H r bo h v ho
 rw [ho] at H; clear ho
 rw [h.eq]; clear h
 refine ak _ _ _<|sQ fun bp ax=>sr fun bq ay=>mv z<|mv z<|q_len vO z<|aN z z<|nl<|ay _ _ _<|dC (a < (a1.length : Int)) (fun n=>?_) fun n=>?_
 refine yK n H fun H=>wt (bY n)<|ws<|ax _ _ _<|sQ fun br az=>wb<|sr fun bs aA=>mv z<|mv z<|iK H fun⟨E, F⟩H=>?_
 obtain ⟨bt, bu, aC, aD, bw, aE⟩ := Dat.get l ag (a) E F
 obtain ⟨rfl⟩ := bF aD
 refine bP oh z aC z E F<|lf sA z z<|fO v bv z (gR.cel _ _ (aE 1 _ z))<|bK H fun aF aG H=>cv AO (fW aG v) z z fun bx J=>aj z<|nl<|aA _ _ _<|sr fun bz aH=>mv z<|mv z<|iK H fun⟨K, M⟩H=>?_
 obtain ⟨bA, bB, aI, aJ, bC, aK⟩ := Dat.get l ag (a) K M
 obtain ⟨rfl⟩ := bF aJ
 refine bP oh z aI z K M<|lf nB z z<|fO J bv z (gR.cel _ _ (aK 2 _ z))<|bK H fun bD aL H=>cv D0 (mw aL J) z z fun bE O=>aj z<|nl<|aH _ _ _<|sr fun bG aM=>mv z<|mv z<|iK H fun⟨P, R⟩H=>?_
 obtain ⟨bH, bI, aO, aP, bJ, aQ⟩ := Dat.get l ag (a) P R
 obtain ⟨rfl⟩ := bF aP
 refine bP oh z aO z P R<|lf vH z z<|fO O bv z (gR.cel _ _ (aQ 3 _ z))<|bK H fun aR aS H=>cv AO (fW aS O) z z fun bL S=>aj z<|nl<|aM _ _ _<|sr fun bM aT=>mv z<|mv z<|iK H fun⟨T, U⟩H=>?_
 obtain ⟨bO, bQ, aU, aV, bS, aW⟩ := Dat.get l ag (a) T U
 obtain ⟨rfl⟩ := bF aV
 refine bP oh z aU z T U<|lf nF z z<|fO S bv z (gR.cel _ _ (aW 4 _ z))<|bK H fun V aX H=>cv AO (fW aX S) z z fun bT x=>aj z<|nl<|aT _ _ _<|sr fun bU aY=>mv z<|be z<|mv z<|bK H fun W hC H=>js 3 x [(0, slice d a1.length f), (6, int .i64 a), (9, bool aR), (10, bool V), (55, bool W)] ?_ fun _ bV y=>?_
 refine have H:=hC;dC ((!aF) = true) (fun i=>?_) fun i=>?_
 refine yK i H fun H=>Sk 2 z z (vY i) z<|bR (vY i) z<|nl<|?_
 cases H
 exact je ⟨z, z, z, z, z, tv⟩ x
 refine nK i H fun H=>mv (hw:=gY z z z (vN i)) z<|be (hw:=gY z z z (vN i)) z<|b7 (vN i) z<|nl<|?_
 cases H
 exact je ⟨z, z, z, z, z, tv⟩ x
 refine mv z<|bK H fun X hC H=>js 3 y [(0, slice d a1.length f), (6, int .i64 a), (10, bool V), (59, bool X)] ?_ fun _ bW A=>?_
 refine have H:=hC;dC (W = true) (fun j=>?_) fun j=>?_
 refine yK j H fun H=>Sk 2 z z (vY j) z<|bR (vY j) z<|nl<|?_
 cases H
 exact je ⟨z, z, z, z, tv⟩ y
 refine nK j H fun H=>mv (hw:=gY z z z (vN j)) z<|be (hw:=gY z z z (vN j)) z<|b7 (vN j) z<|nl<|?_
 cases H
 exact je ⟨z, z, z, z, tv⟩ y
 refine mv z<|bK H fun Y hC H=>js 3 A [(0, slice d a1.length f), (6, int .i64 a), (63, bool Y)] ?_ fun _ bX q=>?_
 refine have H:=hC;dC (X = true) (fun k=>?_) fun k=>?_
 refine yK k H fun H=>Sk 2 z z (vY k) z<|bR (vY k) z<|nl<|?_
 cases H
 exact je ⟨z, z, z, tv⟩ A
 refine nK k H fun H=>mv (hw:=gY z z z (vN k)) z<|be (hw:=gY z z z (vN k)) z<|b7 (vN k) z<|nl<|?_
 cases H
 exact je ⟨z, z, z, tv⟩ A
 refine mv z<|bK H fun Z hC H=>js 7 q [(0, slice d a1.length f), (6, int .i64 a), (71, bool Z)] ?_ fun _ bZ s=>?_
 refine have H:=hC;dC (Y = true) (fun b=>?_) fun b=>?_
 refine yK b H fun H=>Sk 6 z z (vY b) z<|bR (vY b) z<|nl<|?_
 cases H
 exact je ⟨z, z, z, tv⟩ q
 refine nK b H fun H=>mv (hw:=gY z z z (vN b)) z<|mv (hw:=gY z z z (vN b)) z<|iK H fun⟨aa, ab⟩H=>?_
 obtain ⟨b0, b1, aZ, a0, b2, a2⟩ := Dat.get l ag (a) aa ab
 obtain ⟨rfl⟩ := bF a0
 refine bP (hw:=gY z z z (vN b)) oh z aZ z aa ab<|lf (hw:=gY z z z (vN b)) sH z z<|fO (hw:=gY z z z (vN b)) q bv z (gR.cel _ _ (a2 0 _ z))<|aN (hw:=gY z z z (vN b)) z z<|b7 (vN b) z<|nl<|?_
 cases H
 exact je ⟨z, z, z, tv⟩ q
 refine mv z<|bK H fun ad hC H=>js 7 s [(0, slice d a1.length f), (6, int .i64 a), (79, bool ad)] ?_ fun _ b3 af=>?_
 refine have H:=hC;dC (Z = true) (fun c=>?_) fun c=>?_
 refine yK c H fun H=>Sk 6 z z (vY c) z<|bR (vY c) z<|nl<|?_
 cases H
 exact je ⟨z, z, z, tv⟩ s
 refine nK c H fun H=>mv (hw:=gY z z z (vN c)) z<|mv (hw:=gY z z z (vN c)) z<|iK H fun⟨ah, ai⟩H=>?_
 obtain ⟨b4, b5, a3, a4, b6, a5⟩ := Dat.get l ag (a) ah ai
 obtain ⟨rfl⟩ := bF a4
 refine bP (hw:=gY z z z (vN c)) oh z a3 z ah ai<|lf (hw:=gY z z z (vN c)) sH z z<|fO (hw:=gY z z z (vN c)) s bv z (gR.cel _ _ (a5 0 _ z))<|cc (hw:=gY z z z (vN c)) z z<|b7 (vN c) z<|nl<|?_
 cases H
 exact je ⟨z, z, z, tv⟩ s
 refine nl<|aY _ _ _<|dC (ad = true) (fun p=>?_) fun p=>?_
 refine yK p H fun H=>wt (vY p)<|sr fun b8 a7=>aj z<|nl<|a7 _ _ _<|wr<|?_
 cases H
 exact ⟨z, z, ⟨z, tv⟩, af, tv⟩
 exact nK p H fun H=>wf (vN p)<|ws<|az _ _ _<|ae<|mv z<|ba z z<|aj z<|nl<|ih _ _ H _ _ ⟨z, z, tv⟩ af z
 refine nK n H fun H=>wf (bN n)<|wx<|?_
 cases H
 exact ⟨z, z, trivial, v, tv⟩
 rcases u with _ | _
 rintro e r ds b9 ⟨rfl, rfl, h, a8, _⟩
 rw [h.eq]; clear h
 cases H
 exact rt ⟨_, _, z, z, z⟩ a8
 rintro e r ds ca ⟨rfl, rfl, h, a9, _⟩
 rw [h.eq]; clear h
 refine av _ _ _<|sr fun cb bb=>aj z<|nl<|bb _ _ _<|wr<|?_
 cases H
 exact rt ⟨_, _, z, z, z⟩ a9
theorem gS {a1 a10 c d f g m G L w} (H : cQ a1 a10 = some m) (hI : Hp G L w) (T : a1.Glyphs.length ≤ d) (t : Dat au G c a1.Glyphs) (U : a1.Kerns.length ≤ g) (V : Dat ay G f a1.Kerns) :
    Calls Tryz.prog 87 [agg [slice c a1.Glyphs.length d, slice f a1.Kerns.length g].toArray, int .u8 a10].toArray w fun e w' => Hp G L w' ∧ e = .returned (int .i64 m) := by
 refine ac (N := 22) Tryz.func87 z z (Nat.le_of_ble_eq_true z)<|?_
 unfold cQ at H
 refine sr fun W u=>io hI z z fun k X v=>aj z<|nl<|u _ _ _<|sQ fun Y x=>sr fun Z y=>aj z<|nl<|y _ _ _<|wb<|bK H fun l hC H=>?_
 refine aq (Q := fun e r ds w => match (generalizing := false) l with | (Sum.inl n) => e = .ret ∧ ds = [] ∧ Has [(4, int .i64 n)] r ∧ Hp G (bx k [slice c a1.Glyphs.length d, slice f a1.Kerns.length g] 25 :: L) w ∧ True | (Sum.inr _) => e = .exit 0 ∧ ds = [] ∧ Has [] r ∧ Hp G (bx k [slice c a1.Glyphs.length d, slice f a1.Kerns.length g] 25 :: L) w ∧ True) ?_ ?_
 refine aB fun I s=>?_
 refine bw.partial_correctness a1 a10 (fun h o => ∀ (r : Rg) (w : World), Has [(1, int .u8 a10), (2, pointer (some ⟨k, 0, none⟩)), (5, int .i64 h)] r → Hp G (bx k [slice c a1.Glyphs.length d, slice f a1.Kerns.length g] 25 :: L) w → o = l → I r [] w) ?_ 0 _ hC _ _ ⟨rfl, rfl, rfl, tv⟩ v rfl
 intro _ ih h o H r aa a b ho
 rw [ho] at H; clear ho
 rw [a.eq]; clear a
 refine s _ _ _<|sQ fun ab A=>sr fun ad B=>mv z<|fa kK z<|ld b 0 rd z z z<|q_len wO z<|aN z z<|nl<|B _ _ _<|dC (h < (a1.Glyphs.length : Int)) (fun i=>?_) fun i=>?_
 refine yK i H fun H=>wt (bY i)<|ws<|A _ _ _<|sQ fun af C=>wb<|sr fun ag D=>fa kK z<|ld b 0 rd z z z<|mv z<|iK H fun⟨p, q⟩H=>?_
 obtain ⟨ah, ai, E, F, ak, J⟩ := Dat.get t ao (h) p q
 obtain ⟨rfl⟩ := dX F
 refine bP su z E z p q<|lf mr z z<|fO b p6 z (gR.cel _ _ (J 0 _ z))<|mv z<|bA z z<|nl<|D _ _ _<|dC (((a1.Glyphs.getD (Int.toNat h) ao).Byte) = a10) (fun j=>?_) fun j=>?_
 refine yK j H fun H=>wt (bY j)<|sr fun al K=>mv z<|aj z<|nl<|K _ _ _<|wr<|?_
 cases H
 exact ⟨z, z, ⟨z, tv⟩, b, tv⟩
 exact nK j H fun H=>wf (bN j)<|ws<|C _ _ _<|ae<|mv z<|ba z z<|aj z<|nl<|ih _ _ H _ _ ⟨z, z, z, tv⟩ b z
 refine nK i H fun H=>wf (bN i)<|wx<|?_
 cases H
 exact ⟨z, z, trivial, b, tv⟩
 rcases l with n | _
 rintro e r ds am ⟨rfl, rfl, a, M, _⟩
 rw [a.eq]; clear a
 refine have O:=Hp.pick 1 [] M z;?_
 cases H
 exact rt ⟨_, _, z, z, z⟩ O
 rintro e r ds an ⟨rfl, rfl, a, P, _⟩
 rw [a.eq]; clear a
 refine x _ _ _<|sr fun ap R=>aj z<|nl<|R _ _ _<|wr<|have S:=Hp.pick 1 [] P z;?_
 cases H
 exact rt ⟨_, _, z, z, z⟩ S
end Go.Proofs.YtaemgcpcfnbmdaaGreatDoor.LG
