/-
  The walks: each function computes its plain function: printed by a program out of the translation.
-/
import Derived.Test.YtaemgcpcfnbmdaaGreatDoorTy
import Derived.Test.YtaemgcpcfnbmdaaGreatDoorLa
set_option linter.unusedVariables false
set_option linter.unusedSimpArgs false
set_option maxRecDepth 100000
namespace Go.Proofs.YtaemgcpcfnbmdaaGreatDoor.LG
open Go Go.LG Go.RowKit Go.Value
set_option maxHeartbeats 1000000
open Go.Lib Go.Shelf Go.Proofs
theorem j0 {a1 a6 h i k l n G L w} (H : ec a1 a6 = some n) (hI : Hp G L w) (ah : a1.length ≤ i) (A : Dat b6 G h a1) (ai : a6.length ≤ l) (B : Dat b6 G k a6) :
    Calls Tryz.prog 14 [slice h a1.length i, slice k a6.length l].toArray w fun e w' => Hp G L w' ∧ e = .returned (bool n) := by
 refine ac (N := 26) Tryz.func14 z z (Nat.le_of_ble_eq_true z)<|?_
 unfold ec at H
 refine sr fun ak C=>aj z<|nl<|C _ _ _<|sQ fun al D=>sr fun am E=>mv z<|q_len yh z<|mv z<|q_len yh z<|dW z z<|nl<|E _ _ _<|dC (¬ (a1.length : Int) = (a6.length : Int)) (fun c=>?_) fun c=>?_
 refine yK c H fun H=>wt (bY c)<|sr fun an F=>aj z<|nl<|F _ _ _<|wr<|?_
 cases H
 exact rt ⟨_, _, z, z, z⟩ hI
 refine nK c H fun H=>wf (bN c)<|ws<|D _ _ _<|sQ fun ao J=>sr fun ap K=>aj z<|nl<|K _ _ _<|wb<|bK H fun m hC H=>aq (Q := fun e r ds w => match (generalizing := false) m with | (Sum.inl _) => e = .ret ∧ ds = [] ∧ Has [(4, bool false)] r ∧ Hp G (L) w ∧ True | (Sum.inr _) => e = .exit 0 ∧ ds = [] ∧ Has [] r ∧ Hp G (L) w ∧ True) ?_ ?_
 refine aB fun I y=>?_
 refine cL.partial_correctness a1 a6 (fun a o => ∀ (r : Rg) (w : World), Has [(0, slice h a1.length i), (1, slice k a6.length l), (5, int .i64 a)] r → Hp G (L) w → o = m → I r [] w) ?_ 0 _ hC _ _ ⟨rfl, rfl, rfl, tv⟩ hI rfl
 intro _ ih a o H r ar b p ho
 rw [ho] at H; clear ho
 rw [b.eq]; clear b
 refine y _ _ _<|sQ fun au M=>sr fun av O=>mv z<|mv z<|q_len yh z<|aN z z<|nl<|O _ _ _<|dC (a < (a1.length : Int)) (fun d=>?_) fun d=>?_
 refine yK d H fun H=>wt (bY d)<|ws<|M _ _ _<|sQ fun aw P=>wb<|sQ fun ax R=>?_
 refine kZ jD (by kernel_rfl) ?_
 refine have g:=p.drew;wq (mv z aK) z<|wq (mv z aK) z<|iK H fun⟨s, t⟩H=>?_
 obtain ⟨ay, az, S, T, aA, U⟩ := Dat.get A cu (a) s t
 obtain ⟨rfl⟩ := qN T
 refine wq (bP ut z S z s t aK) z<|wq (ki g vT z (cs := [string ((a1.getD (Int.toNat a) cu).Text), int .i64 ((a1.getD (Int.toNat a) cu).X), int .i64 ((a1.getD (Int.toNat a) cu).Y), int .i64 ((a1.getD (Int.toNat a) cu).W), int .i64 ((a1.getD (Int.toNat a) cu).H)]) z (fun j v hv => gR.cel _ _ (U j v hv)) aK) z<|wq (mv z aK) z<|wq (mv z aK) z<|iK H fun⟨u, x⟩H=>?_
 obtain ⟨aC, aD, V, Z, aE, aa⟩ := Dat.get B cu (a) u x
 obtain ⟨rfl⟩ := qN Z
 refine wq (bP ut z V z u x aK) z<|wq (ki g vT z (cs := [string ((a6.getD (Int.toNat a) cu).Text), int .i64 ((a6.getD (Int.toNat a) cu).X), int .i64 ((a6.getD (Int.toNat a) cu).Y), int .i64 ((a6.getD (Int.toNat a) cu).W), int .i64 ((a6.getD (Int.toNat a) cu).H)]) z (fun j v hv => gR.cel _ _ (aa j v hv)) aK) z<|wq (AU (q := (a1.getD (Int.toNat a) cu) = (a6.getD (Int.toNat a) cu)) z z vJ (vu (a1.getD (Int.toNat a) cu) (a6.getD (Int.toNat a) cu)) (vm _ _) aK) z<|ed<|R _ _ _<|dC (¬ (a1.getD (Int.toNat a) cu) = (a6.getD (Int.toNat a) cu)) (fun f=>?_) fun f=>?_
 refine yK f H fun H=>wt (bY f)<|sr fun aF ab=>aj z<|nl<|ab _ _ _<|wr<|?_
 cases H
 exact ⟨z, z, ⟨z, tv⟩, g, tv⟩
 exact nK f H fun H=>wf (bN f)<|ws<|P _ _ _<|ae<|mv z<|ba z z<|aj z<|nl<|ih _ _ H _ _ ⟨z, z, z, tv⟩ g z
 refine nK d H fun H=>wf (bN d)<|wx<|?_
 cases H
 exact ⟨z, z, trivial, p, tv⟩
 rcases m with _ | _
 rintro e r ds aG ⟨rfl, rfl, b, ad, _⟩
 rw [b.eq]; clear b
 cases H
 exact rt ⟨_, _, z, z, z⟩ ad
 rintro e r ds aH ⟨rfl, rfl, b, af, _⟩
 rw [b.eq]; clear b
 refine J _ _ _<|sr fun aI ag=>aj z<|nl<|ag _ _ _<|wr<|?_
 cases H
 exact rt ⟨_, _, z, z, z⟩ af
theorem nE {a1 a G L w} (H : cmp_isNaN_int a1 = some a) (hI : Hp G L w) :
    Calls Tryz.prog 95 [int .i64 a1].toArray w fun e w' => Hp G L w' ∧ e = .returned (bool a) := by
 refine ac (N := 6) Tryz.func95 z z (Nat.le_of_ble_eq_true z)<|?_
 unfold cmp_isNaN_int at H
 refine sr fun d b=>aj z<|nl<|b _ _ _<|sr fun f c=>mv z<|mv z<|dW z z<|aj z<|nl<|c _ _ _<|wr<|?_
 cases H
 exact rt ⟨_, _, z, z, z⟩ hI
theorem mz {a1 a2 h G L w} (H : ic a1 a2 = some h) (hI : Hp G L w) :
    Calls Tryz.prog 64 [int .i64 a1, int .i64 a2].toArray w fun e w' => Hp G L w' ∧ e = .returned (int .i64 h) := by
 refine ac (N := 20) Tryz.func64 z z (Nat.le_of_ble_eq_true z)<|?_
 unfold ic at H
 refine sr fun K j=>aj z<|nl<|j _ _ _<|sr fun M k=>mv z<|bK H fun l m H=>cv DM (nE m hI) z z fun O n=>aj z<|nl<|k _ _ _<|sr fun P o=>mv z<|bK H fun i p H=>?_
 refine cv DM (nE p n) z z fun Q a=>aj z<|nl<|o _ _ _<|sQ fun R q=>sr fun S r=>mv z<|nl<|r _ _ _<|dC (l = true) (fun b=>?_) fun b=>?_
 refine yK b H fun H=>wt (vY b)<|sQ fun T s=>sr fun U t=>mv z<|nl<|t _ _ _<|dC (i = true) (fun c=>?_) fun c=>?_
 refine yK c H fun H=>wt (vY c)<|sr fun V u=>aj z<|nl<|u _ _ _<|wr<|?_
 cases H
 exact rt ⟨_, _, z, z, z⟩ a
 refine nK c H fun H=>wf (vN c)<|ws<|s _ _ _<|sr fun W v=>aj z<|nl<|v _ _ _<|wr<|?_
 cases H
 exact rt ⟨_, _, z, z, z⟩ a
 refine nK b H fun H=>wf (vN b)<|ws<|q _ _ _<|sQ fun X x=>sr fun Y y=>mv z<|nl<|y _ _ _<|dC (i = true) (fun d=>?_) fun d=>?_
 refine yK d H fun H=>wt (vY d)<|sr fun Z A=>aj z<|nl<|A _ _ _<|wr<|?_
 cases H
 exact rt ⟨_, _, z, z, z⟩ a
 refine nK d H fun H=>wf (vN d)<|ws<|x _ _ _<|sQ fun aa B=>sr fun ab C=>mv z<|mv z<|aN z z<|nl<|C _ _ _<|dC (a1 < a2) (fun f=>?_) fun f=>?_
 refine yK f H fun H=>wt (bY f)<|sr fun ad D=>aj z<|nl<|D _ _ _<|wr<|?_
 cases H
 exact rt ⟨_, _, z, z, z⟩ a
 refine nK f H fun H=>wf (bN f)<|ws<|B _ _ _<|sQ fun ae E=>sr fun af F=>mv z<|mv z<|cc z z<|nl<|F _ _ _<|dC (a2 < a1) (fun g=>?_) fun g=>?_
 refine yK g H fun H=>wt (bY g)<|sr fun ag I=>aj z<|nl<|I _ _ _<|wr<|?_
 cases H
 exact rt ⟨_, _, z, z, z⟩ a
 refine nK g H fun H=>wf (bN g)<|ws<|E _ _ _<|sr fun ah J=>aj z<|nl<|J _ _ _<|wr<|?_
 cases H
 exact rt ⟨_, _, z, z, z⟩ a
theorem cE {a1 a2 c d G L w} (H : aY a1 a2 c = some d) (hI : Hp G L w) :
    Calls Tryz.prog 33 [int .i64 a1, int .i64 a2, int .i64 c].toArray w fun e w' => Hp G L w' ∧ e = .returned (bool d) := by
 refine ac (N := 17) Tryz.func33 z z (Nat.le_of_ble_eq_true z)<|?_
 unfold aY at H
 refine sr fun n f=>aj z<|nl<|f _ _ _<|sr fun o g=>mv z<|mv z<|bK H fun h i H=>cv E6 (mz i hI) z z fun p b=>gM z z<|mv z<|bK H fun j hC H=>js 5 b [(16, bool j)] ?_ fun _ q k=>?_
 refine have H:=hC;dC (0 ≤ h) (fun a=>?_) fun a=>?_
 refine yK a H fun H=>mv (hw:=gY z z z (bY a)) z<|mv (hw:=gY z z z (bY a)) z<|bK H fun r l H=>cv (hw:=gY z z z (bY a)) E6 (mz l b) z z fun s m=>eI (hw:=gY z z z (bY a)) z z<|bR (bY a) z<|nl<|?_
 cases H
 exact je ⟨z, tv⟩ m
 refine nK a H fun H=>Sk 4 z z (bN a) z<|b7 (bN a) z<|nl<|?_
 cases H
 exact je ⟨z, tv⟩ b
 refine aj z<|nl<|g _ _ _<|wr<|?_
 cases H
 exact rt ⟨_, _, z, z, z⟩ k
theorem qH {a1 a G L w} (H : jU a1 = some a) (hI : Hp G L w) :
    Calls Tryz.prog 32 [int .i64 a1].toArray w fun e w' => Hp G L w' ∧ e = .returned (bool a) := by
 refine ac (N := 6) Tryz.func32 z z (Nat.le_of_ble_eq_true z)<|?_
 unfold jU at H
 refine sr fun g b=>aj z<|nl<|b _ _ _<|sr fun h c=>mv z<|bK H fun i d H=>cv wA (cE d hI) z z fun j f=>be z<|aj z<|nl<|c _ _ _<|wr<|?_
 cases H
 exact rt ⟨_, _, z, z, z⟩ f
theorem mS {a1 a G L w} (H : fP a1 = some a) (hI : Hp G L w) :
    Calls Tryz.prog 134 [int .u8 a1].toArray w fun e w' => Hp G L w' ∧ e = .returned (bool a) := by
 refine ac (N := 6) Tryz.func134 z z (Nat.le_of_ble_eq_true z)<|?_
 unfold fP at H
 refine sr fun d b=>aj z<|nl<|b _ _ _<|sr fun f c=>mv z<|mv z<|dW z z<|aj z<|nl<|c _ _ _<|wr<|?_
 cases H
 exact rt ⟨_, _, z, z, z⟩ hI
theorem jA {a1 a2 h G L w} (H : cy a1 a2 = some h) (hI : Hp G L w) :
    Calls Tryz.prog 104 [int .u8 a1, int .u8 a2].toArray w fun e w' => Hp G L w' ∧ e = .returned (int .i64 h) := by
 refine ac (N := 20) Tryz.func104 z z (Nat.le_of_ble_eq_true z)<|?_
 unfold cy at H
 refine sr fun K j=>aj z<|nl<|j _ _ _<|sr fun M k=>mv z<|bK H fun l m H=>cv CH (mS m hI) z z fun O n=>aj z<|nl<|k _ _ _<|sr fun P o=>mv z<|bK H fun i p H=>?_
 refine cv CH (mS p n) z z fun Q a=>aj z<|nl<|o _ _ _<|sQ fun R q=>sr fun S r=>mv z<|nl<|r _ _ _<|dC (l = true) (fun b=>?_) fun b=>?_
 refine yK b H fun H=>wt (vY b)<|sQ fun T s=>sr fun U t=>mv z<|nl<|t _ _ _<|dC (i = true) (fun c=>?_) fun c=>?_
 refine yK c H fun H=>wt (vY c)<|sr fun V u=>aj z<|nl<|u _ _ _<|wr<|?_
 cases H
 exact rt ⟨_, _, z, z, z⟩ a
 refine nK c H fun H=>wf (vN c)<|ws<|s _ _ _<|sr fun W v=>aj z<|nl<|v _ _ _<|wr<|?_
 cases H
 exact rt ⟨_, _, z, z, z⟩ a
 refine nK b H fun H=>wf (vN b)<|ws<|q _ _ _<|sQ fun X x=>sr fun Y y=>mv z<|nl<|y _ _ _<|dC (i = true) (fun d=>?_) fun d=>?_
 refine yK d H fun H=>wt (vY d)<|sr fun Z A=>aj z<|nl<|A _ _ _<|wr<|?_
 cases H
 exact rt ⟨_, _, z, z, z⟩ a
 refine nK d H fun H=>wf (vN d)<|ws<|x _ _ _<|sQ fun aa B=>sr fun ab C=>mv z<|mv z<|aN z z<|nl<|C _ _ _<|dC (a1 < a2) (fun f=>?_) fun f=>?_
 refine yK f H fun H=>wt (bY f)<|sr fun ad D=>aj z<|nl<|D _ _ _<|wr<|?_
 cases H
 exact rt ⟨_, _, z, z, z⟩ a
 refine nK f H fun H=>wf (bN f)<|ws<|B _ _ _<|sQ fun ae E=>sr fun af F=>mv z<|mv z<|cc z z<|nl<|F _ _ _<|dC (a2 < a1) (fun g=>?_) fun g=>?_
 refine yK g H fun H=>wt (bY g)<|sr fun ag I=>aj z<|nl<|I _ _ _<|wr<|?_
 cases H
 exact rt ⟨_, _, z, z, z⟩ a
 refine nK g H fun H=>wf (bN g)<|ws<|E _ _ _<|sr fun ah J=>aj z<|nl<|J _ _ _<|wr<|?_
 cases H
 exact rt ⟨_, _, z, z, z⟩ a
theorem nX {a1 a2 a G L w} (H : iA a1 a2 = some a) (hI : Hp G L w) :
    Calls Tryz.prog 103 [agg [int .u8 a1.Byte, int .i64 a1.Advance].toArray, int .u8 a2].toArray w fun e w' => Hp G L w' ∧ e = .returned (int .i64 a) := by
 refine ac (N := 9) Tryz.func103 z z (Nat.le_of_ble_eq_true z)<|?_
 unfold iA at H
 refine sr fun i c=>io hI z z fun j k b=>aj z<|nl<|c _ _ _<|sr fun l d=>fa mr z<|ld b 0 p6 z z z<|mv z<|bK H fun m f H=>cv Bo (jA f b) z z fun n g=>aj z<|nl<|d _ _ _<|?_
 refine wr<|have h:=Hp.pick 1 [] g z;?_
 cases H
 exact rt ⟨_, _, z, z, z⟩ h
theorem ko {a1 a6 i k p q G L w} (H : bJ a1 a6 = some (p, q)) (hI : Hp G L w) (af : a1.length ≤ k) (s : Dat au G i a1) :
    Calls Tryz.prog 133 [slice i a1.length k, int .u8 a6, func (.func 103) [].toArray [].toArray].toArray w fun e w' => Hp G L w' ∧ e = .returned (tuple [int .i64 p, bool q].toArray) := by
 refine ac (N := 49) Tryz.func133 z z (Nat.le_of_ble_eq_true z)<|?_
 unfold bJ at H
 refine sr fun K7 C=>aj z<|aj z<|nl<|C _ _ _<|sr fun K9 D=>mv z<|q_len wO z<|aj z<|nl<|D _ _ _<|sr fun ai E=>mv z<|aj z<|?_
 refine aj z<|nl<|E _ _ _<|sQ fun ak F=>wb<|bK H fun b hC H=>aq (Q := fun e r ds w => e = .exit 0 ∧ ds = [] ∧ Has [(0, slice i a1.length k), (1, int .u8 a6), (2, func (.func 103) [].toArray [].toArray), (8, int .i64 (a1.length : Int)), (9, int .i64 b)] r ∧ Hp G (L) w ∧ True) ?_ ?_
 refine aB fun I B=>?_
 refine aI.partial_correctness a1 a6 (fun c d o => ∀ (r : Rg) (w : World), Has [(0, slice i a1.length k), (1, int .u8 a6), (2, func (.func 103) [].toArray [].toArray), (8, int .i64 (a1.length : Int)), (9, int .i64 c), (10, int .i64 d)] r → Hp G (L) w → o = b → I r [] w) ?_ 0 (a1.length : Int) _ hC _ _ ⟨rfl, rfl, rfl, rfl, rfl, rfl, tv⟩ hI rfl
 intro _ ih c d o H r al f n ho
 rw [ho] at H; clear ho
 rw [f.eq]; clear f
 refine B _ _ _<|sQ fun am J=>sr fun an K=>mv z<|mv z<|aN z z<|nl<|K _ _ _<|dC (c < d) (fun g=>?_) fun g=>?_
 refine yK g H fun H=>wt (bY g)<|ws<|J _ _ _<|wb<|sr fun ap M=>mv z<|mv z<|ba z z<|rA ik3 Cw z<|Bj (m := 1) z z z<|rA Cw ik3 z<|aj z<|nl<|?_
 refine M _ _ _<|sr fun ar O=>mv z<|mv z<|mv z<|iK H fun⟨t, u⟩H=>?_
 obtain ⟨av, aw, P, R, ay, S⟩ := Dat.get s ao (ax (Int.fdiv (IntKind.wrap .u64 (ax (c + d))) (2 ^ 1))) t u
 obtain ⟨rfl⟩ := dX R
 refine bP su z P z t u<|ki n l0 z (cs := [int .u8 ((a1.getD (Int.toNat (ax (Int.fdiv (IntKind.wrap .u64 (ax (c + d))) (2 ^ 1)))) ao).Byte), int .i64 ((a1.getD (Int.toNat (ax (Int.fdiv (IntKind.wrap .u64 (ax (c + d))) (2 ^ 1)))) ao).Advance)]) z (fun j v hv => gR.cel _ _ (S j v hv))<|mv z<|bK H fun T U H=>cv CQ (nX (a1 := (a1.getD (Int.toNat (ax (Int.fdiv (IntKind.wrap .u64 (ax (c + d))) (2 ^ 1)))) ao)) U n) z z fun az x=>aN z z<|nl<|O _ _ _<|dC (T < 0) (fun h=>?_) fun h=>?_
 exact yK h H fun H=>wt (bY h)<|ae<|mv z<|ba z z<|aj z<|nl<|ih _ _ _ H _ _ ⟨z, z, z, z, z, z, tv⟩ x z
 exact nK h H fun H=>wf (bN h)<|ae<|mv z<|aj z<|nl<|ih _ _ _ H _ _ ⟨z, z, z, z, z, z, tv⟩ x z
 refine nK g H fun H=>wf (bN g)<|wx<|?_
 cases H
 exact ⟨z, z, ⟨z, z, z, z, z, tv⟩, n, tv⟩
 rintro e r ds aA ⟨rfl, rfl, f, l, _⟩
 rw [f.eq]; clear f
 refine F _ _ _<|sr fun aC V=>mv z<|mv z<|mv z<|aN z z<|mv z<|bK H fun W hC H=>js 9 l [(35, int .i64 b), (48, bool W)] ?_ fun _ aD X=>?_
 refine have H:=hC;dC (b < (a1.length : Int)) (fun a=>?_) fun a=>?_
 refine yK a H fun H=>mv (hw:=gY z z z (bY a)) z<|mv (hw:=gY z z z (bY a)) z<|mv (hw:=gY z z z (bY a)) z<|iK H fun⟨y, A⟩H=>?_
 obtain ⟨aE, aF, Y, Z, aG, aa⟩ := Dat.get s ao (b) y A
 obtain ⟨rfl⟩ := dX Z
 refine bP (hw:=gY z z z (bY a)) su z Y z y A<|ki (hw:=gY z z z (bY a)) l l0 z (cs := [int .u8 ((a1.getD (Int.toNat b) ao).Byte), int .i64 ((a1.getD (Int.toNat b) ao).Advance)]) z (fun j v hv => gR.cel _ _ (aa j v hv))<|mv (hw:=gY z z z (bY a)) z<|bK H fun aH ab H=>cv (hw:=gY z z z (bY a)) CQ (nX (a1 := (a1.getD (Int.toNat b) ao)) ab l) z z fun aJ ad=>bA (hw:=gY z z z (bY a)) z z<|bR (bY a) z<|nl<|?_
 cases H
 exact je ⟨z, z, tv⟩ ad
 refine nK a H fun H=>Sk 8 z z (bN a) z<|b7 (bN a) z<|nl<|?_
 cases H
 exact je ⟨z, z, tv⟩ l
 refine aj z<|aj z<|nl<|V _ _ _<|wr<|?_
 cases H
 exact rt ⟨_, _, z, z, ⟨_, _, z, z, z⟩⟩ X
theorem ph {a1 a6 f h c i G L w} (H : eT a1 a6 = some (c, i)) (hI : Hp G L w) (s : a1.length ≤ h) (k : Dat au G f a1) :
    Calls Tryz.prog 102 [slice f a1.length h, int .u8 a6, func (.func 103) [].toArray [].toArray].toArray w fun e w' => Hp G L w' ∧ e = .returned (tuple [agg [int .u8 c.Byte, int .i64 c.Advance].toArray, bool i].toArray) := by
 refine ac (N := 25) Tryz.func102 z z (Nat.le_of_ble_eq_true z)<|?_
 unfold eT at H
 refine sr fun S t=>aM hI nm fun l T u=>aj z<|nl<|t _ _ _<|sr fun U x=>mv z<|mv z<|mv z<|iJ H fun a y A H=>cv E7 (ko A u s k) z z fun V d=>mv z<|cK z z<|cK z z<|?_
 refine aj z<|aj z<|nl<|x _ _ _<|sQ fun W B=>sr fun X C=>mv z<|be z<|nl<|C _ _ _<|dC ((!y) = true) (fun b=>?_) fun b=>?_
 refine yK b H fun H=>wt (vY b)<|sr fun Y D=>aM d nm fun Z aa m=>nl<|D _ _ _<|sr fun ab E=>d9 m 0 l0 z z z z<|fX m 1 l0 z z z z z z z fun ad n=>aj z<|nl<|E _ _ _<|wr<|have F:=bW (P := Tryz.prog) n 1 (cs := [int .u8 0, int .i64 0]) (g := l) (o := 0) l0 z z z;?_
 refine have I:=Hp.pick 2 [] n z;?_
 cases H
 exact rt ⟨_, _, _, z, z, F, ⟨_, _, z, z, z⟩⟩ I
 refine nK b H fun H=>wf (vN b)<|ws<|B _ _ _<|sr fun ae J=>mv z<|mv z<|iK H fun⟨p, q⟩H=>?_
 obtain ⟨af, ag, K, M, ah, O⟩ := Dat.get k ao (a) p q
 obtain ⟨rfl⟩ := dX M
 refine bP su z K z p q<|ki d l0 z (cs := [int .u8 ((a1.getD (Int.toNat a) ao).Byte), int .i64 ((a1.getD (Int.toNat a) ao).Advance)]) z (fun j v hv => gR.cel _ _ (O j v hv))<|fX d 0 l0 z z z z z z z fun ai r=>aj z<|nl<|J _ _ _<|wr<|have Q:=bW (P := Tryz.prog) r 0 (cs := [int .u8 ((a1.getD (Int.toNat a) ao).Byte), int .i64 ((a1.getD (Int.toNat a) ao).Advance)]) (g := l) (o := 0) l0 z z z;have R:=Hp.pick 1 [] r z;?_
 cases H
 exact rt ⟨_, _, _, z, z, Q, ⟨_, _, z, z, z⟩⟩ R
theorem kG {a1 a10 b c d f a h G L w} (H : fE a1 a10 = some (a, h)) (hI : Hp G L w) (l : a1.Glyphs.length ≤ c) (m : Dat au G b a1.Glyphs) (x : a1.Kerns.length ≤ f) (y : Dat ay G d a1.Kerns) :
    Calls Tryz.prog 75 [agg [slice b a1.Glyphs.length c, slice d a1.Kerns.length f].toArray, int .u8 a10].toArray w fun e w' => Hp G L w' ∧ e = .returned (tuple [agg [int .u8 a.Byte, int .i64 a.Advance].toArray, bool h].toArray) := by
 refine ac (N := 12) Tryz.func75 z z (Nat.le_of_ble_eq_true z)<|?_
 unfold fE at H
 refine sr fun A n=>io hI z z fun B C p=>aM p nm fun q D i=>aj z<|nl<|n _ _ _<|sr fun E r=>fa kK z<|ld i 1 rd z z z<|mv z<|iJ H fun j F s H=>cv Ef (ph s i l m) z z fun I t=>cK z z<|cK z z<|?_
 refine fX t 0 l0 z z z z z z z fun J k=>aj z<|nl<|r _ _ _<|wr<|have u:=bW (P := Tryz.prog) k 0 (cs := [int .u8 j.Byte, int .i64 j.Advance]) (g := q) (o := 0) l0 z z z;have v:=Hp.pick 2 [] k z;?_
 cases H
 exact rt ⟨_, _, _, z, z, u, ⟨_, _, z, z, z⟩⟩ v
theorem s7 {a1 g h j G L w} (H : kV a1 = some j) (hI : Hp G L w) (O : a1.length ≤ h) (p : Dat (Kd.int .i64) G g a1) :
    Calls Tryz.prog 105 [slice g a1.length h].toArray w fun e w' => Hp G L w' ∧ e = .returned (int .i64 j) := by
 refine ac (N := 18) Tryz.func105 z z (Nat.le_of_ble_eq_true z)<|?_
 unfold kV at H
 refine sr fun P q=>aj z<|nl<|q _ _ _<|sr fun R s=>aj z<|nl<|s _ _ _<|sQ fun S t=>sr fun T u=>mv z<|q_len lg z<|mv z<|nl<|?_
 refine u _ _ _<|wb<|bK H fun i hC H=>aq (Q := fun e r ds w => match (generalizing := false) i with | (Sum.inl k) => e = .ret ∧ ds = [] ∧ Has [(2, int .i64 k)] r ∧ Hp G (L) w ∧ True | (Sum.inr _) => e = .exit 0 ∧ ds = [] ∧ Has [(3, int .i64 0)] r ∧ Hp G (L) w ∧ True) ?_ ?_
 refine aB fun I n=>?_
 refine fQ.partial_correctness a1 (fun b o => ∀ (r : Rg) (w : World), Has [(3, int .i64 0), (6, slice g a1.length h), (7, int .i64 (a1.length : Int)), (8, int .i64 b)] r → Hp G (L) w → o = i → I r [] w) ?_ 0 _ hC _ _ ⟨rfl, rfl, rfl, rfl, tv⟩ hI rfl
 intro _ ih b o H r U a f ho
 rw [ho] at H; clear ho
 rw [a.eq]; clear a
 refine n _ _ _<|sr fun V v=>aN z z<|nl<|v _ _ _<|sQ fun W x=>dC (b < (a1.length : Int)) (fun c=>?_) fun c=>?_
 refine yK c H fun H=>wt (bY c)<|ws<|x _ _ _<|sQ fun X y=>wb<|sr fun Y A=>iK H fun⟨l, m⟩H=>?_
 obtain ⟨Z, aa, B, C, ab, D⟩ := Dat.get p (0 : Int) (b) l m
 obtain rfl := C
 refine bP dI z B z l m<|fO f bv z (gR.cel _ _ (D 0 _ z))<|aj z<|nl<|A _ _ _<|sr fun ad E=>mv z<|mv z<|dW z z<|nl<|E _ _ _<|dC (¬ (a1.getD (Int.toNat b) (0 : Int)) = 0) (fun d=>?_) fun d=>?_
 refine yK d H fun H=>wt (bY d)<|sr fun af F=>mv z<|aj z<|nl<|F _ _ _<|wr<|?_
 cases H
 exact ⟨z, z, ⟨z, tv⟩, f, tv⟩
 exact nK d H fun H=>wf (bN d)<|ws<|y _ _ _<|ae<|ba z z<|mv z<|nl<|ih _ _ H _ _ ⟨z, z, z, z, tv⟩ f z
 refine nK c H fun H=>wf (bN c)<|wx<|?_
 cases H
 exact ⟨z, z, ⟨z, tv⟩, f, tv⟩
 rcases i with k | _
 rintro e r ds ag ⟨rfl, rfl, a, J, _⟩
 rw [a.eq]; clear a
 cases H
 exact rt ⟨_, _, z, z, z⟩ J
 rintro e r ds ah ⟨rfl, rfl, a, K, _⟩
 rw [a.eq]; clear a
 refine t _ _ _<|sr fun ai M=>mv z<|aj z<|nl<|M _ _ _<|wr<|?_
 cases H
 exact rt ⟨_, _, z, z, z⟩ K
theorem mJ {a1 a2 y G L w} (H : gH a1 a2 = some y) (hI : Hp G L w) :
    Calls Tryz.prog 76 [agg [int .u8 a1.Left, int .u8 a1.Right, int .i64 a1.By].toArray, agg [int .u8 a2.left, int .u8 a2.right].toArray].toArray w fun e w' => Hp G L w' ∧ e = .returned (int .i64 y) := by
 refine ac (N := 17) Tryz.func76 z z (Nat.le_of_ble_eq_true z)<|?_
 unfold gH at H
 refine sr fun T A=>io hI z z fun t U B=>io B z z fun u V C=>aj z<|nl<|A _ _ _<|sQ fun W E=>bK H fun q F H=>bK H fun s I H=>bK H fun v J H=>?_
 refine eC [0, 1, 0, 4, 15, 0, 32, 0, 128, 511, 1023, 2047, 4095] (fun D r w => (D 10 = false ∧ ∃ (G' : Gh), G ≤ G' ∧ ap [(2, pointer (some ⟨t, 0, none⟩)), (3, pointer (some ⟨u, 0, none⟩))] [] [(0, 5, pointer (some ⟨t, 0, none⟩)), (1, 6, int .u8 a1.Left), (2, 7, pointer (some ⟨u, 0, none⟩)), (3, 8, int .u8 a2.left), (4, 9, int .i64 q), (5, 10, pointer (some ⟨t, 1, none⟩)), (6, 11, int .u8 a1.Right), (7, 12, pointer (some ⟨u, 1, none⟩)), (8, 13, int .u8 a2.right), (9, 14, int .i64 s)] D r ∧ Hp G' (bx u [int .u8 a2.left, int .u8 a2.right] 127 :: bx t [int .u8 a1.Left, int .u8 a1.Right, int .i64 a1.By] 122 :: L) w) ∨ (D 10 = true ∧ ∃ (l : Nat) (G' : Gh), G ≤ G' ∧ Dat (Kd.int .i64) G' (some ⟨l, 0, none⟩) ([q, s] : List Int) ∧ ap [(2, pointer (some ⟨t, 0, none⟩)), (3, pointer (some ⟨u, 0, none⟩))] [] [(0, 5, pointer (some ⟨t, 0, none⟩)), (1, 6, int .u8 a1.Left), (2, 7, pointer (some ⟨u, 0, none⟩)), (3, 8, int .u8 a2.left), (4, 9, int .i64 q), (5, 10, pointer (some ⟨t, 1, none⟩)), (6, 11, int .u8 a1.Right), (7, 12, pointer (some ⟨u, 1, none⟩)), (8, 13, int .u8 a2.right), (9, 14, int .i64 s), (10, 15, slice (some ⟨l, 0, none⟩) ([q, s] : List Int).length 2), (11, 16, int .i64 v), (12, 4, int .i64 v)] D r ∧ Hp G' (tk (slice (some ⟨l, 0, none⟩) ([q, s] : List Int).length 2) 1 3 :: bx u [int .u8 a2.left, int .u8 a2.right] 127 :: bx t [int .u8 a1.Left, int .u8 a1.Right, int .i64 a1.By] 122 :: L) w)) jD z z ?_ ?_ ?_
 exact (.inl ⟨z, _, Gh.le_refl _, ap.start ⟨z, z, tv⟩ trivial, C.drew⟩)
 refine ⟨?_, ?_, ?_, ?_, ?_, ?_, ?_, ?_, ?_, ?_, ?_, ?_, ?_, tv⟩
 rintro D r o (⟨i, f, c, a, b⟩ | ⟨j, l, f, c, m, a, b⟩) d g k
 obtain ⟨p, rfl⟩ := Has.ex (cC (a.ins.get 0 rfl) cN)
 exact fa mU z<|nl ⟨z, (.inl ⟨i, _, c, (ap.step a d z z z z), b⟩)⟩
 cases (k 10 rfl).symm.trans j
 rintro D r o (⟨i, f, c, a, b⟩ | ⟨j, l, f, c, m, a, b⟩) d g k
 obtain ⟨p, rfl⟩ := Has.ex (cC (a.get 0 rfl (g 0 rfl)) cN)
 exact ld b 1 p6 z z z<|nl ⟨z, (.inl ⟨i, _, c, (ap.step a d z z z z), b⟩)⟩
 cases (k 10 rfl).symm.trans j
 rintro D r o (⟨i, f, c, a, b⟩ | ⟨j, l, f, c, m, a, b⟩) d g k
 obtain ⟨p, rfl⟩ := Has.ex (cC (a.ins.get 1 rfl) cN)
 exact fa BP z<|nl ⟨z, (.inl ⟨i, _, c, (ap.step a d z z z z), b⟩)⟩
 cases (k 10 rfl).symm.trans j
 rintro D r o (⟨i, f, c, a, b⟩ | ⟨j, l, f, c, m, a, b⟩) d g k
 obtain ⟨p, rfl⟩ := Has.ex (cC (a.get 2 rfl (g 2 rfl)) cN)
 exact ld b 0 p6 z z z<|nl ⟨z, (.inl ⟨i, _, c, (ap.step a d z z z z), b⟩)⟩
 cases (k 10 rfl).symm.trans j
 rintro D r o (⟨i, f, c, a, b⟩ | ⟨j, l, f, c, m, a, b⟩) d g k
 obtain ⟨p, rfl⟩ := Has.ex (cC (a.get 1 rfl (g 1 rfl)) (cC (a.get 3 rfl (g 3 rfl)) cN))
 exact cv Bo (jA F b) z z fun X K=>nl ⟨z, (.inl ⟨i, _, c, (ap.step a d z z z z), K⟩)⟩
 cases (k 10 rfl).symm.trans j
 rintro D r o (⟨i, f, c, a, b⟩ | ⟨j, l, f, c, m, a, b⟩) d g k
 obtain ⟨p, rfl⟩ := Has.ex (cC (a.ins.get 0 rfl) cN)
 exact fa pn z<|nl ⟨z, (.inl ⟨i, _, c, (ap.step a d z z z z), b⟩)⟩
 cases (k 10 rfl).symm.trans j
 rintro D r o (⟨i, f, c, a, b⟩ | ⟨j, l, f, c, m, a, b⟩) d g k
 obtain ⟨p, rfl⟩ := Has.ex (cC (a.get 5 rfl (g 5 rfl)) cN)
 exact ld b 1 p6 z z z<|nl ⟨z, (.inl ⟨i, _, c, (ap.step a d z z z z), b⟩)⟩
 cases (k 10 rfl).symm.trans j
 rintro D r o (⟨i, f, c, a, b⟩ | ⟨j, l, f, c, m, a, b⟩) d g k
 obtain ⟨p, rfl⟩ := Has.ex (cC (a.ins.get 1 rfl) cN)
 exact fa yN z<|nl ⟨z, (.inl ⟨i, _, c, (ap.step a d z z z z), b⟩)⟩
 cases (k 10 rfl).symm.trans j
 rintro D r o (⟨i, f, c, a, b⟩ | ⟨j, l, f, c, m, a, b⟩) d g k
 obtain ⟨p, rfl⟩ := Has.ex (cC (a.get 7 rfl (g 7 rfl)) cN)
 exact ld b 0 p6 z z z<|nl ⟨z, (.inl ⟨i, _, c, (ap.step a d z z z z), b⟩)⟩
 cases (k 10 rfl).symm.trans j
 rintro D r o (⟨i, f, c, a, b⟩ | ⟨j, l, f, c, m, a, b⟩) d g k
 obtain ⟨p, rfl⟩ := Has.ex (cC (a.get 6 rfl (g 6 rfl)) (cC (a.get 8 rfl (g 8 rfl)) cN))
 exact cv Bo (jA I b) z z fun Y M=>nl ⟨z, (.inl ⟨i, _, c, (ap.step a d z z z z), M⟩)⟩
 cases (k 10 rfl).symm.trans j
 rintro D r o (⟨i, f, c, a, b⟩ | ⟨j, l, f, c, m, a, b⟩) d g k
 obtain ⟨p, rfl⟩ := Has.ex (cC (a.get 4 rfl (g 4 rfl)) (cC (a.get 9 rfl (g 9 rfl)) cN))
 refine mm b (vs := [(0, int .i64 q), (1, int .i64 s)]) (cs := [int .i64 q, int .i64 s]) dI vI rfl (by decide) rfl rfl (fun l Z O => ?_)
 obtain ⟨aa, P, Q, m⟩ := Hp.publish (xs := ([q, s] : List Int)) (n := 2) (Kd.int .i64) O ⟨[int .i64 q], _, rfl, rfl, ⟨[int .i64 s], _, rfl, rfl, rfl⟩⟩ rfl
 exact nl ⟨z, (.inr ⟨z, l, _, (gT c P), m, (ap.step (ap.more (new := [(10, 15, slice (some ⟨l, 0, none⟩) ([q, s] : List Int).length 2), (11, 16, int .i64 v), (12, 4, int .i64 v)]) a (List.forall_mem_cons.2 ⟨d, (List.forall_mem_cons.2 ⟨k 11 z, (List.forall_mem_cons.2 ⟨k 12 z, (fun _ h => nomatch h)⟩)⟩)⟩)) d z z z z), Q⟩)⟩
 cases d.symm.trans j
 rintro D r o (⟨i, f, c, a, b⟩ | ⟨j, l, f, c, m, a, b⟩) d g k
 cases (g 10 rfl).symm.trans i
 obtain ⟨p, rfl⟩ := Has.ex (cC (a.get 10 rfl (g 10 rfl)) cN)
 exact cv Ex (s7 (a1 := ([q, s] : List Int)) J b (show ([q, s] : List Int).length ≤ 2 from Nat.le_of_ble_eq_true z) m) z z fun ab R=>nl ⟨z, (.inr ⟨j, l, _, c, m, (ap.step a d z z z z), R⟩)⟩
 rintro D r o (⟨i, f, c, a, b⟩ | ⟨j, l, f, c, m, a, b⟩) d g k
 cases (g 10 rfl).symm.trans i
 obtain ⟨p, rfl⟩ := Has.ex (cC (a.get 11 rfl (g 11 rfl)) cN)
 exact aj z<|nl ⟨z, (.inr ⟨j, l, _, c, m, (ap.step a d z z z z), b⟩)⟩
 intro D r o x hR
 rcases hR with ⟨i, f, c, a, b⟩ | ⟨j, l, f, c, m, a, b⟩
 cases (x 10 (Nat.le_of_ble_eq_true rfl)).symm.trans i
 obtain ⟨p, rfl⟩ := Has.ex (cC (a.get 12 rfl (x 12 (Nat.le_of_ble_eq_true rfl))) cN)
 refine E _ _ _<|wr<|have S:=Hp.pick 3 [] b z;?_
 cases H
 exact rt ⟨_, _, z, z, z⟩ (Hp.low c S)
theorem mL {a1 s t h i ag G L w} (H : aU a1 = some ag) (hI : Hp G L w) (ah : a1.Glyphs.length ≤ t) (M : Dat au G s a1.Glyphs) (ai : a1.Kerns.length ≤ i) (O : Dat ay G h a1.Kerns) :
    Calls Tryz.prog 38 [agg [slice s a1.Glyphs.length t, slice h a1.Kerns.length i].toArray].toArray w fun e w' => Hp G L w' ∧ e = .returned (bool ag) := by
 refine ac (N := 123) Tryz.func38 z z (Nat.le_of_ble_eq_true z)<|?_
 unfold aU at H
 refine sr fun b9 aR=>io hI z z fun f ca A=>aj z<|nl<|aR _ _ _<|sQ fun cb aS=>sr fun cd aT=>fa kK z<|ld A 0 rd z z z<|q_len wO z<|cc z z<|mv z<|bK H fun ak hC H=>js 5 A [(1, pointer (some ⟨f, 0, none⟩)), (20, bool ak)] ?_ fun _ ce S=>?_
 refine have H:=hC;dC (94 < (a1.Glyphs.length : Int)) (fun u=>?_) fun u=>?_
 refine yK u H fun H=>Sk 4 z z (bY u) z<|bR (bY u) z<|nl<|?_
 cases H
 exact je ⟨z, z, tv⟩ A
 refine nK u H fun H=>fa (hw:=gY z z z (bN u)) kX z<|ld (hw:=gY z z z (bN u)) A 0 qV z z z<|q_len (hw:=gY z z z (bN u)) x6 z<|cc (hw:=gY z z z (bN u)) z z<|b7 (bN u) z<|nl<|?_
 cases H
 exact je ⟨z, z, tv⟩ A
 refine nl<|aT _ _ _<|dC (ak = true) (fun B=>?_) fun B=>?_
 refine yK B H fun H=>wt (vY B)<|sr fun cg aV=>aj z<|nl<|aV _ _ _<|wr<|have aW:=Hp.pick 1 [] S z;?_
 cases H
 exact rt ⟨_, _, z, z, z⟩ aW
 refine nK B H fun H=>wf (vN B)<|ws<|aS _ _ _<|sQ fun ch aX=>sr fun ci aY=>fa kK z<|ld S 0 rd z z z<|q_len wO z<|mv z<|nl<|aY _ _ _<|wb<|bK H fun T hC H=>?_
 refine aq (Q := fun e r ds w => match (generalizing := false) T with | (Sum.inl _) => e = .ret ∧ ds = [] ∧ Has [(2, bool false)] r ∧ Hp G (bx f [slice s a1.Glyphs.length t, slice h a1.Kerns.length i] 25 :: L) w ∧ True | (Sum.inr _) => e = .exit 0 ∧ ds = [] ∧ Has [(1, pointer (some ⟨f, 0, none⟩))] r ∧ Hp G (bx f [slice s a1.Glyphs.length t, slice h a1.Kerns.length i] 25 :: L) w ∧ True) ?_ ?_
 refine aB fun I R=>?_
 refine cA.partial_correctness a1 (fun k o => ∀ (r : Rg) (w : World), Has [(1, pointer (some ⟨f, 0, none⟩)), (22, slice s a1.Glyphs.length t), (23, int .i64 (a1.Glyphs.length : Int)), (24, int .i64 k)] r → Hp G (bx f [slice s a1.Glyphs.length t, slice h a1.Kerns.length i] 25 :: L) w → o = T → I r [] w) ?_ 0 _ hC _ _ ⟨rfl, rfl, rfl, rfl, tv⟩ S rfl
 intro _ ih k o H r cj d U ho
 rw [ho] at H; clear ho
 rw [d.eq]; clear d
 refine R _ _ _<|sr fun ck aZ=>aN z z<|nl<|aZ _ _ _<|sQ fun cl a0=>dC (k < (a1.Glyphs.length : Int)) (fun C=>?_) fun C=>?_
 refine yK C H fun H=>wt (bY C)<|ws<|a0 _ _ _<|sQ fun cm a3=>wb<|sr fun cn a4=>mv z<|iK H fun⟨al, an⟩H=>?_
 obtain ⟨co, cp, a5, a6, cq, a7⟩ := Dat.get M ao (k) al an
 obtain ⟨rfl⟩ := dX a6
 refine bP su z a5 z al an<|ki U l0 z (cs := [int .u8 ((a1.Glyphs.getD (Int.toNat k) ao).Byte), int .i64 ((a1.Glyphs.getD (Int.toNat k) ao).Advance)]) z (fun j v hv => gR.cel _ _ (a7 j v hv))<|aM U nm fun cr ct a8=>aj z<|fX a8 0 l0 z z z z z z z fun cu ap=>nl<|a4 _ _ _<|sQ fun cw a9=>bK H fun ar hC H=>jc .normal ap [(1, pointer (some ⟨f, 0, none⟩)), (22, slice s a1.Glyphs.length t), (23, int .i64 (a1.Glyphs.length : Int)), (24, int .i64 k), (62, bool ar)] ?_ fun _ cx av=>?_
 refine have H:=hC;?_
 refine kZ jD (by kernel_rfl) ?_
 refine have l:=ap.drew;wq (fa mr z aK) z<|wq (ld l 0 p6 z z z aK) z<|wq (aN z z aK) z<|wq (mv z aK) z<|dC (((a1.Glyphs.getD (Int.toNat k) ao).Byte) < 32) (fun n=>?_) fun n=>?_
 refine yK n H fun H=>bb z z z (bY n) z z<|bb z z z (bY n) z z<|bb z z z (bY n) z z<|wq (bR (bY n) z aK) z<|wq (mv z aK) z<|bb z z z z z z<|bb z z z z z z<|bb z z z z z z<|wq (bR z z aK) z<|wq (mv z aK) z<|bb z z z z z z<|bb z z z z z z<|bb z z z z z z<|?_
 refine wq (bR z z aK) z<|wq (mv z aK) z<|bb z z z z z z<|bb z z z z z z<|bb z z z z z z<|bb z z z z z z<|bb z z z z z z<|bb z z z z z z<|bb z z z z z z<|bb z z z z z z<|bb z z z z z z<|bb z z z z z z<|bb z z z z z z<|bb z z z z z z<|?_
 refine bb z z z z z z<|bb z z z z z z<|wq (bR z z aK) z<|ed<|?_
 cases H
 exact je ⟨z, z, z, z, z, tv⟩ l
 refine nK n H fun H=>wq (fa (hw:=gY z z z (bN n)) mr z aK) z<|wq (ld (hw:=gY z z z (bN n)) l 0 p6 z z z aK) z<|wq (gM (hw:=gY z z z (bN n)) z z aK) z<|wq (b7 (bN n) z aK) z<|wq (mv z aK) z<|dC (126 ≤ ((a1.Glyphs.getD (Int.toNat k) ao).Byte)) (fun p=>?_) fun p=>?_
 refine yK p H fun H=>bb z z z (bY p) z z<|bb z z z (bY p) z z<|bb z z z (bY p) z z<|wq (bR (bY p) z aK) z<|wq (mv z aK) z<|bb z z z z z z<|bb z z z z z z<|bb z z z z z z<|wq (bR z z aK) z<|wq (mv z aK) z<|bb z z z z z z<|bb z z z z z z<|bb z z z z z z<|?_
 refine bb z z z z z z<|bb z z z z z z<|bb z z z z z z<|bb z z z z z z<|bb z z z z z z<|bb z z z z z z<|bb z z z z z z<|bb z z z z z z<|bb z z z z z z<|bb z z z z z z<|bb z z z z z z<|wq (bR z z aK) z<|ed<|?_
 cases H
 exact je ⟨z, z, z, z, z, tv⟩ l
 refine nK p H fun H=>wq (fa (hw:=gY z z z (bN p)) oa z aK) z<|wq (ld (hw:=gY z z z (bN p)) l 0 bv z z z aK) z<|wq (aN (hw:=gY z z z (bN p)) z z aK) z<|wq (b7 (bN p) z aK) z<|wq (mv z aK) z<|dC (((a1.Glyphs.getD (Int.toNat k) ao).Advance) < 0) (fun q=>?_) fun q=>?_
 refine yK q H fun H=>bb z z z (bY q) z z<|bb z z z (bY q) z z<|bb z z z (bY q) z z<|wq (bR (bY q) z aK) z<|wq (mv z aK) z<|bb z z z z z z<|bb z z z z z z<|bb z z z z z z<|bb z z z z z z<|bb z z z z z z<|bb z z z z z z<|bb z z z z z z<|bb z z z z z z<|?_
 refine bb z z z z z z<|bb z z z z z z<|bb z z z z z z<|bb z z z z z z<|bb z z z z z z<|bb z z z z z z<|wq (bR z z aK) z<|ed<|?_
 cases H
 exact je ⟨z, z, z, z, z, tv⟩ l
 refine nK q H fun H=>wq (fa (hw:=gY z z z (bN q)) oa z aK) z<|wq (ld (hw:=gY z z z (bN q)) l 0 bv z z z aK) z<|wq (cc (hw:=gY z z z (bN q)) z z aK) z<|wq (b7 (bN q) z aK) z<|wq (mv z aK) z<|dC (1000 < ((a1.Glyphs.getD (Int.toNat k) ao).Advance)) (fun g=>?_) fun g=>?_
 refine yK g H fun H=>bb z z z (bY g) z z<|bb z z z (bY g) z z<|bb z z z (bY g) z z<|bb z z z z z z<|bb z z z z z z<|bb z z z z z z<|bb z z z z z z<|bb z z z z z z<|bb z z z z z z<|bb z z z z z z<|bb z z z z z z<|bb z z z z z z<|bb z z z z z z<|?_
 refine bb z z z (bY g) z z<|wq (bR (bY g) z aK) z<|ed<|?_
 cases H
 exact je ⟨z, z, z, z, z, tv⟩ l
 refine nK g H fun H=>wq (mv (hw:=gY z z z (bN g)) z aK) z<|wq (cc (hw:=gY z z z (bN g)) z z aK) z<|wq (mv (hw:=gY z z z (bN g)) z aK) z<|dC (0 < k) (fun c=>?_) fun c=>?_
 refine yK c H fun H=>wq (fa (hw:=gY z z z (bY c)) mr z aK) z<|wq (ld (hw:=gY z z z (bY c)) l 0 p6 z z z aK) z<|wq (fa (hw:=gY z z z (bY c)) kK z aK) z<|wq (ld (hw:=gY z z z (bY c)) l 1 rd z z z aK) z<|wq (mv (hw:=gY z z z (bY c)) z aK) z<|wq (dl (hw:=gY z z z (bY c)) z z aK) z<|iK H fun⟨aw, az⟩H=>?_
 obtain ⟨cy, cz, bc, bd, cB, bf⟩ := Dat.get M ao (ax (k - 1)) aw az
 obtain ⟨rfl⟩ := dX bd
 refine wq (bP (hw:=gY z z z (bY c)) su z bc z aw az aK) z<|wq (lf (hw:=gY z z z (bY c)) mr z z aK) z<|wq (fO (hw:=gY z z z (bY c)) l p6 z (gR.cel _ _ (bf 0 _ z)) aK) z<|wq (eI (hw:=gY z z z (bY c)) z z aK) z<|wq (bR (hw:=gY z z z (bN g)) (bY c) z aK) z<|wq (b7 (bN g) z aK) z<|ed<|?_
 cases H
 exact je ⟨z, z, z, z, z, tv⟩ l
 refine nK c H fun H=>bb z z z (bN c) z z<|bb z z z (bN c) z z<|bb z z z (bN c) z z<|bb z z z (bN c) z z<|bb z z z (bN c) z z<|bb z z z (bN c) z z<|bb z z z (bN c) z z<|bb z z z (bN c) z z<|bb z z z (bN c) z z<|bb z z z (bN c) z z<|wq (b7 (hw:=gY z z z (bN g)) (bN c) z aK) z<|wq (b7 (bN g) z aK) z<|ed<|?_
 cases H
 exact je ⟨z, z, z, z, z, tv⟩ l
 refine a9 _ _ _<|dC (ar = true) (fun D=>?_) fun D=>?_
 refine yK D H fun H=>wt (vY D)<|sr fun cC bg=>aj z<|nl<|bg _ _ _<|wr<|have bh:=Hp.pick 2 [1] av z;?_
 cases H
 exact ⟨z, z, ⟨z, tv⟩, bh, tv⟩
 exact nK D H fun H=>wf (vN D)<|ws<|a3 _ _ _<|ae<|ba z z<|mv z<|nl<|have bi:=Hp.pick 2 [1] av z;ih _ _ H _ _ ⟨z, z, z, z, tv⟩ bi z
 refine nK C H fun H=>wf (bN C)<|wx<|?_
 cases H
 exact ⟨z, z, ⟨z, tv⟩, U, tv⟩
 rcases T with _ | _
 rintro e r ds cD ⟨rfl, rfl, d, bj, _⟩
 rw [d.eq]; clear d
 refine have bk:=Hp.pick 1 [] bj z;?_
 cases H
 exact rt ⟨_, _, z, z, z⟩ bk
 rintro e r ds cE ⟨rfl, rfl, d, aA, _⟩
 rw [d.eq]; clear d
 refine aX _ _ _<|sQ fun cF bl=>sr fun cG bm=>fa kX z<|ld aA 0 qV z z z<|q_len x6 z<|mv z<|nl<|bm _ _ _<|wb<|bK H fun V hC H=>?_
 refine aq (Q := fun e r ds w => match (generalizing := false) V with | (Sum.inl _) => e = .ret ∧ ds = [] ∧ Has [(2, bool false)] r ∧ Hp G (bx f [slice s a1.Glyphs.length t, slice h a1.Kerns.length i] 25 :: L) w ∧ True | (Sum.inr _) => e = .exit 2 ∧ ds = [] ∧ Has [] r ∧ Hp G (bx f [slice s a1.Glyphs.length t, slice h a1.Kerns.length i] 25 :: L) w ∧ True) ?_ ?_
 refine aB fun I R=>?_
 refine cf.partial_correctness a1 (fun a o => ∀ (r : Rg) (w : World), Has [(1, pointer (some ⟨f, 0, none⟩)), (65, slice h a1.Kerns.length i), (66, int .i64 (a1.Kerns.length : Int)), (67, int .i64 a)] r → Hp G (bx f [slice s a1.Glyphs.length t, slice h a1.Kerns.length i] 25 :: L) w → o = V → I r [] w) ?_ 0 _ hC _ _ ⟨rfl, rfl, rfl, rfl, tv⟩ aA rfl
 intro _ ih a o H r cH d W ho
 rw [ho] at H; clear ho
 rw [d.eq]; clear d
 refine R _ _ _<|sr fun cI bn=>aN z z<|nl<|bn _ _ _<|sQ fun cJ bo=>dC (a < (a1.Kerns.length : Int)) (fun E=>?_) fun E=>?_
 refine yK E H fun H=>wt (bY E)<|ws<|bo _ _ _<|sQ fun cL bp=>wb<|sr fun cM bq=>mv z<|iK H fun⟨aC, aD⟩H=>?_
 obtain ⟨cN, cO, br, bs, cP, bt⟩ := Dat.get O am (a) aC aD
 obtain ⟨rfl⟩ := dB bs
 refine bP s8 z br z aC aD<|ki W nS z (cs := [int .u8 ((a1.Kerns.getD (Int.toNat a) am).Left), int .u8 ((a1.Kerns.getD (Int.toNat a) am).Right), int .i64 ((a1.Kerns.getD (Int.toNat a) am).By)]) z (fun j v hv => gR.cel _ _ (bt j v hv))<|aM W wi fun X cQ bu=>aj z<|fX bu 0 nS z z z z z z z fun cR Y=>nl<|bq _ _ _<|sr fun cS bw=>d9 Y 1 fw z z z z<|fa mU z<|ld Y 0 p6 z z z<|iJ H fun cT bz bA H=>cv BW (kG bA Y ah M ai O) z z fun cU bB=>mv z<|?_
 refine cK z z<|cK z z<|aM bB nm fun aE cV bC=>fX bC 0 l0 z z z z z z z fun cW Z=>aj z<|nl<|bw _ _ _<|sr fun cX bD=>d9 Z 2 fw z z z z<|fa pn z<|ld Z 1 p6 z z z<|iJ H fun cY cZ bE H=>cv BW (kG bE Z ah M ai O) z z fun c0 bF=>mv z<|?_
 refine cK z z<|cK z z<|aM bF nm fun c1 c2 bG=>fX bG 0 l0 z z z z z z z fun c4 aa=>aj z<|nl<|bD _ _ _<|sQ fun c5 bH=>sr fun c6 bI=>mv z<|be z<|mv z<|bK H fun aG hC H=>js 3 aa [(1, pointer (some ⟨f, 0, none⟩)), (5, int .i64 a), (6, pointer (some ⟨X, 0, none⟩)), (7, pointer (some ⟨aE, 0, none⟩)), (65, slice h a1.Kerns.length i), (66, int .i64 (a1.Kerns.length : Int)), (67, int .i64 a), (91, bool aG)] ?_ fun _ c8 P=>?_
 refine have H:=hC;dC ((!bz) = true) (fun y=>?_) fun y=>?_
 refine yK y H fun H=>Sk 2 z z (vY y) z<|bR (vY y) z<|nl<|?_
 cases H
 exact je ⟨z, z, z, z, z, z, z, z, tv⟩ aa
 refine nK y H fun H=>mv (hw:=gY z z z (vN y)) z<|be (hw:=gY z z z (vN y)) z<|b7 (vN y) z<|nl<|?_
 cases H
 exact je ⟨z, z, z, z, z, z, z, z, tv⟩ aa
 refine mv z<|bK H fun aH hC H=>js 4 P [(1, pointer (some ⟨f, 0, none⟩)), (5, int .i64 a), (6, pointer (some ⟨X, 0, none⟩)), (7, pointer (some ⟨aE, 0, none⟩)), (65, slice h a1.Kerns.length i), (66, int .i64 (a1.Kerns.length : Int)), (67, int .i64 a), (96, bool aH)] ?_ fun _ c9 F=>?_
 refine have H:=hC;dC (aG = true) (fun x=>?_) fun x=>?_
 refine yK x H fun H=>Sk 3 z z (vY x) z<|bR (vY x) z<|nl<|?_
 cases H
 exact je ⟨z, z, z, z, z, z, z, z, tv⟩ P
 refine nK x H fun H=>fa (hw:=gY z z z (vN x)) o2 z<|ld (hw:=gY z z z (vN x)) P 2 bv z z z<|cc (hw:=gY z z z (vN x)) z z<|b7 (vN x) z<|nl<|?_
 cases H
 exact je ⟨z, z, z, z, z, z, z, z, tv⟩ P
 refine mv z<|bK H fun aI hC H=>js 7 F [(1, pointer (some ⟨f, 0, none⟩)), (5, int .i64 a), (6, pointer (some ⟨X, 0, none⟩)), (65, slice h a1.Kerns.length i), (66, int .i64 (a1.Kerns.length : Int)), (67, int .i64 a), (104, bool aI)] ?_ fun _ da ab=>?_
 refine have H:=hC;dC (aH = true) (fun m=>?_) fun m=>?_
 refine yK m H fun H=>Sk 6 z z (vY m) z<|bR (vY m) z<|nl<|?_
 cases H
 exact je ⟨z, z, z, z, z, z, z, tv⟩ F
 refine nK m H fun H=>fa (hw:=gY z z z (vN m)) o2 z<|ld (hw:=gY z z z (vN m)) F 2 bv z z z<|fa (hw:=gY z z z (vN m)) oa z<|ld (hw:=gY z z z (vN m)) F 1 bv z z z<|Es (hw:=gY z z z (vN m)) z<|aN (hw:=gY z z z (vN m)) z z<|b7 (vN m) z<|nl<|?_
 cases H
 exact je ⟨z, z, z, z, z, z, z, tv⟩ F
 refine nl<|bI _ _ _<|dC (aI = true) (fun J=>?_) fun J=>?_
 refine yK J H fun H=>wt (vY J)<|sr fun db bJ=>aj z<|nl<|bJ _ _ _<|wr<|have bL:=Hp.pick 4 [3] ab z;?_
 cases H
 exact ⟨z, z, ⟨z, tv⟩, bL, tv⟩
 refine nK J H fun H=>wf (vN J)<|ws<|bH _ _ _<|sQ fun dc bM=>bK H fun aJ hC H=>jc .normal ab [(1, pointer (some ⟨f, 0, none⟩)), (65, slice h a1.Kerns.length i), (66, int .i64 (a1.Kerns.length : Int)), (67, int .i64 a), (121, bool aJ)] ?_ fun _ dd aL=>?_
 refine have H:=hC;?_
 refine ie ab jD (by kernel_rfl) ?_
 refine di (fun Gq w hGq Iq=>mv z aK) z z<|di (fun Gq w hGq Iq=>cc z z aK) z z<|di (fun Gq w hGq Iq=>mv z aK) z z<|dC (0 < a) (fun b=>?_) fun b=>?_
 refine yK b H fun H=>di (fun Gq w hGq Iq=>fa (hw:=gY z z z (bY b)) kX z aK) z z<|di (fun Gq w hGq Iq=>ld (hw:=gY z z z (bY b)) Iq 3 qV z z z aK) z z<|di (fun Gq w hGq Iq=>mv (hw:=gY z z z (bY b)) z aK) z z<|di (fun Gq w hGq Iq=>dl (hw:=gY z z z (bY b)) z z aK) z z<|iK H fun⟨aP, aQ⟩H=>?_
 obtain ⟨de, df, bQ, bS, dg, bT⟩ := Dat.get O am (ax (a - 1)) aP aQ
 obtain ⟨rfl⟩ := dB bS
 refine di (fun Gq w hGq Iq=>bP (hw:=gY z z z (bY b)) s8 z bQ z aP aQ aK) z z<|di (fun Gq w hGq Iq=>ki (hw:=gY z z z (bY b)) Iq nS z (cs := [int .u8 ((a1.Kerns.getD (Int.toNat (ax (a - 1))) am).Left), int .u8 ((a1.Kerns.getD (Int.toNat (ax (a - 1))) am).Right), int .i64 ((a1.Kerns.getD (Int.toNat (ax (a - 1))) am).By)]) z (fun j v hv => hGq.cel _ _ (bT j v hv)) aK) z z<|di (fun Gq w hGq Iq=>fa (hw:=gY z z z (bY b)) mU z aK) z z<|di (fun Gq w hGq Iq=>ld (hw:=gY z z z (bY b)) Iq 2 p6 z z z aK) z z<|di (fun Gq w hGq Iq=>fa (hw:=gY z z z (bY b)) pn z aK) z z<|di (fun Gq w hGq Iq=>ld (hw:=gY z z z (bY b)) Iq 2 p6 z z z aK) z z<|di (fun Gq w hGq Iq=>bO (hw:=gY z z z (bY b)) (vs := [(0, int .u8 ((a1.Kerns.getD (Int.toNat a) am).Left)), (1, int .u8 ((a1.Kerns.getD (Int.toNat a) am).Right))]) (cs := [int .u8 ((a1.Kerns.getD (Int.toNat a) am).Left), int .u8 ((a1.Kerns.getD (Int.toNat a) am).Right)]) AA CZ z z aK) z z<|bK H fun bU bV H=>?_
 refine wk (vs := [agg [int .u8 ((a1.Kerns.getD (Int.toNat (ax (a - 1))) am).Left), int .u8 ((a1.Kerns.getD (Int.toNat (ax (a - 1))) am).Right), int .i64 ((a1.Kerns.getD (Int.toNat (ax (a - 1))) am).By)].toArray, agg [int .u8 ((a1.Kerns.getD (Int.toNat a) am).Left), int .u8 ((a1.Kerns.getD (Int.toNat a) am).Right)].toArray]) (v := int .i64 bU) Dh z z (fun Gq w hGq Iq => ?_) ?_ (hw := gY z z z (lG b))
 refine Calls.mono (mJ (a1 := (a1.Kerns.getD (Int.toNat (ax (a - 1))) am)) (a2 := (⟨(a1.Kerns.getD (Int.toNat a) am).Left, (a1.Kerns.getD (Int.toNat a) am).Right⟩ : aO)) bV Iq)<|?_
 rintro _ w2 ⟨I2, rfl⟩
 exact ⟨z, _, hGq, I2⟩
 refine di (fun Gq w hGq Iq=>gM (hw:=gY z z z (bY b)) z z aK) z z<|di (fun Gq w hGq Iq=>bR (bY b) z aK) z z<|wz fun bX bZ ad af=>?_
 cases H
 exact je ⟨z, z, z, z, z, tv⟩ (Hp.low ad af)
 refine nK b H fun H=>wp (aF z z z (bN b) z)<|wp (aF z z z (bN b) z)<|wp (aF z z z (bN b) z)<|wp (aF z z z (bN b) z)<|wp (aF z z z (bN b) z)<|wp (aF z z z (bN b) z)<|wp (aF z z z (bN b) z)<|wp (aF z z z (bN b) z)<|wp (aF z z z (bN b) z)<|wp (aF z z z (bN b) z)<|wp (aF z z z (bN b) z)<|wp (aF z z z (bN b) z)<|wp (aF z z z (bN b) z)<|?_
 refine di (fun Gq w hGq Iq=>b7 (bN b) z aK) z z<|wz fun bX bZ ad af=>?_
 cases H
 exact je ⟨z, z, z, z, z, tv⟩ (Hp.low ad af)
 refine bM _ _ _<|dC (aJ = true) (fun K=>?_) fun K=>?_
 refine yK K H fun H=>wt (vY K)<|sr fun dj b0=>aj z<|nl<|b0 _ _ _<|wr<|have b1:=Hp.pick 4 [3] aL z;?_
 cases H
 exact ⟨z, z, ⟨z, tv⟩, b1, tv⟩
 exact nK K H fun H=>wf (vN K)<|ws<|bp _ _ _<|ae<|ba z z<|mv z<|nl<|have b2:=Hp.pick 4 [3] aL z;ih _ _ H _ _ ⟨z, z, z, z, tv⟩ b2 z
 refine nK E H fun H=>wf (bN E)<|wx<|?_
 cases H
 exact ⟨z, z, trivial, W, tv⟩
 rcases V with _ | _
 rintro e r ds dk ⟨rfl, rfl, d, b3, _⟩
 rw [d.eq]; clear d
 refine have b4:=Hp.pick 1 [] b3 z;?_
 cases H
 exact rt ⟨_, _, z, z, z⟩ b4
 rintro e r ds dm ⟨rfl, rfl, d, b5, _⟩
 rw [d.eq]; clear d
 refine bl _ _ _<|sr fun dn b6=>aj z<|nl<|b6 _ _ _<|wr<|have b8:=Hp.pick 1 [] b5 z;?_
 cases H
 exact rt ⟨_, _, z, z, z⟩ b8
theorem fe {a1 o G L w} (H : dP a1 = some o) (hI : Hp G L w) :
    Calls Tryz.prog 77 [int .u8 a1].toArray w fun e w' => Hp G L w' ∧ e = .returned (int .i64 o) := by
 refine ac (N := 37) Tryz.func77 z z (Nat.le_of_ble_eq_true z)<|?_
 unfold dP at H
 refine sr fun P u=>aj z<|nl<|u _ _ _<|sQ fun Q v=>wb<|sr fun R x=>mv z<|bA z z<|aj z<|nl<|x _ _ _<|dC (a1 = 32) (fun f=>?_) fun f=>?_
 refine yK f H fun H=>wt (bY f)<|sr fun S y=>aj z<|nl<|y _ _ _<|wr<|?_
 cases H
 exact rt ⟨_, _, z, z, z⟩ hI
 refine nK f H fun H=>wf (bN f)<|sr fun T A=>mv z<|bA z z<|aj z<|nl<|A _ _ _<|dC (a1 = 126) (fun g=>?_) fun g=>?_
 refine yK g H fun H=>wt (bY g)<|sr fun U B=>aj z<|nl<|B _ _ _<|wr<|?_
 cases H
 exact rt ⟨_, _, z, z, z⟩ hI
 refine nK g H fun H=>wf (bN g)<|sr fun V C=>mv z<|aN z z<|mv z<|bK H fun p hC H=>js 3 hI [(0, int .u8 a1), (15, bool p)] ?_ fun _ W l=>?_
 refine have H:=hC;dC (a1 < 32) (fun a=>?_) fun a=>?_
 refine yK a H fun H=>Sk 2 z z (bY a) z<|bR (bY a) z<|nl<|?_
 cases H
 exact je ⟨z, z, tv⟩ hI
 refine nK a H fun H=>mv (hw:=gY z z z (bN a)) z<|cc (hw:=gY z z z (bN a)) z z<|b7 (bN a) z<|nl<|?_
 cases H
 exact je ⟨z, z, tv⟩ hI
 refine aj z<|nl<|C _ _ _<|dC (p = true) (fun h=>?_) fun h=>?_
 refine yK h H fun H=>wt (vY h)<|sr fun X D=>aj z<|nl<|D _ _ _<|wr<|?_
 cases H
 exact rt ⟨_, _, z, z, z⟩ l
 refine nK h H fun H=>wf (vN h)<|sr fun Y E=>mv z<|eI z z<|mv z<|bK H fun q hC H=>js 3 l [(0, int .u8 a1), (22, bool q)] ?_ fun _ Z m=>?_
 refine have H:=hC;dC (97 ≤ a1) (fun b=>?_) fun b=>?_
 refine yK b H fun H=>mv (hw:=gY z z z (bY b)) z<|eI (hw:=gY z z z (bY b)) z z<|bR (bY b) z<|nl<|?_
 cases H
 exact je ⟨z, z, tv⟩ l
 refine nK b H fun H=>Sk 2 z z (bN b) z<|b7 (bN b) z<|nl<|?_
 cases H
 exact je ⟨z, z, tv⟩ l
 refine aj z<|nl<|E _ _ _<|dC (q = true) (fun i=>?_) fun i=>?_
 refine yK i H fun H=>wt (vY i)<|sr fun aa F=>aj z<|nl<|F _ _ _<|wr<|?_
 cases H
 exact rt ⟨_, _, z, z, z⟩ m
 refine nK i H fun H=>wf (vN i)<|sr fun ab I=>mv z<|eI z z<|mv z<|bK H fun r hC H=>js 3 m [(0, int .u8 a1), (29, bool r)] ?_ fun _ ad n=>?_
 refine have H:=hC;dC (65 ≤ a1) (fun c=>?_) fun c=>?_
 refine yK c H fun H=>mv (hw:=gY z z z (bY c)) z<|eI (hw:=gY z z z (bY c)) z z<|bR (bY c) z<|nl<|?_
 cases H
 exact je ⟨z, z, tv⟩ m
 refine nK c H fun H=>Sk 2 z z (bN c) z<|b7 (bN c) z<|nl<|?_
 cases H
 exact je ⟨z, z, tv⟩ m
 refine aj z<|nl<|I _ _ _<|dC (r = true) (fun j=>?_) fun j=>?_
 refine yK j H fun H=>wt (vY j)<|sr fun ae J=>aj z<|nl<|J _ _ _<|wr<|?_
 cases H
 exact rt ⟨_, _, z, z, z⟩ n
 refine nK j H fun H=>wf (vN j)<|sr fun af K=>mv z<|eI z z<|mv z<|bK H fun s hC H=>js 3 n [(36, bool s)] ?_ fun _ ag t=>?_
 refine have H:=hC;dC (48 ≤ a1) (fun d=>?_) fun d=>?_
 refine yK d H fun H=>mv (hw:=gY z z z (bY d)) z<|eI (hw:=gY z z z (bY d)) z z<|bR (bY d) z<|nl<|?_
 cases H
 exact je ⟨z, tv⟩ n
 refine nK d H fun H=>Sk 2 z z (bN d) z<|b7 (bN d) z<|nl<|?_
 cases H
 exact je ⟨z, tv⟩ n
 refine aj z<|nl<|K _ _ _<|dC (s = true) (fun k=>?_) fun k=>?_
 refine yK k H fun H=>wt (vY k)<|sr fun ah M=>aj z<|nl<|M _ _ _<|wr<|?_
 cases H
 exact rt ⟨_, _, z, z, z⟩ t
 refine nK k H fun H=>wf (vN k)<|ws<|v _ _ _<|sr fun ai O=>aj z<|nl<|O _ _ _<|wr<|?_
 cases H
 exact rt ⟨_, _, z, z, z⟩ t
theorem ij {a1 k G L w} (H : gf a1 = some k) (hI : Hp G L w) :
    Calls Tryz.prog 39 [string a1].toArray w fun e w' => Hp G L w' ∧ e = .returned (bool k) := by
 refine ac (N := 21) Tryz.func39 z z (Nat.le_of_ble_eq_true z)<|?_
 unfold gf at H
 refine sr fun P t=>aj z<|nl<|t _ _ _<|sQ fun R u=>sr fun S v=>mv z<|yP hI fA z fun c T x=>nl<|v _ _ _<|wb<|bK H fun h hC H=>?_
 refine aq (Q := fun e r ds w => match (generalizing := false) h with | (Sum.inl l) => e = .ret ∧ ds = [] ∧ Has [(2, bool false)] r ∧ Hp G (ob c (Obj.stringIter a1 l) :: L) w ∧ True | (Sum.inr m) => e = .exit 0 ∧ ds = [] ∧ Has [(0, string a1)] r ∧ Hp G (ob c (Obj.stringIter a1 m) :: L) w ∧ True) ?_ ?_
 refine aB fun I s=>?_
 refine fR.partial_correctness a1 (fun g o => ∀ (r : Rg) (w : World), Has [(0, string a1), (6, pointer (some ⟨c, 0, none⟩))] r → Hp G (ob c (Obj.stringIter a1 g) :: L) w → o = h → I r [] w) ?_ 0 _ hC _ _ ⟨rfl, rfl, tv⟩ x rfl
 intro _ ih g o H r U b i ho
 rw [ho] at H; clear ho
 rw [b.eq]; clear b
 refine s _ _ _<|sr fun V n=>dC (g < a1.size) (fun d=>?_) fun d=>?_
 refine yK d H fun H=>yn i 0 z z d fun W j=>cK z z<|nl<|n _ _ _<|sQ fun X y=>wt z<|ws<|y _ _ _<|wb<|sr fun Y A=>cK z z<|aj z<|nl<|?_
 refine A _ _ _<|sr fun Z B=>mv z<|cc z z<|mv z<|bK H fun p hC H=>js 5 j [(0, string a1), (6, pointer (some ⟨c, 0, none⟩)), (17, bool p)] ?_ fun _ aa q=>?_
 refine have H:=hC;dC (126 < ((Utf8.decode a1 g).1 : Int)) (fun a=>?_) fun a=>?_
 refine yK a H fun H=>Sk 4 z z (bY a) z<|bR (bY a) z<|nl<|?_
 cases H
 exact je ⟨z, z, z, tv⟩ j
 refine nK a H fun H=>mv (hw:=gY z z z (bN a)) z<|rA (hw:=gY z z z (bN a)) AW Az z<|bK H fun ab C H=>cv (hw:=gY z z z (bN a)) we (fe C j) z z fun ad D=>bA (hw:=gY z z z (bN a)) z z<|b7 (bN a) z<|nl<|?_
 cases H
 exact je ⟨z, z, z, tv⟩ D
 refine nl<|B _ _ _<|dC (p = true) (fun f=>?_) fun f=>?_
 refine yK f H fun H=>wt (vY f)<|sr fun ae E=>aj z<|nl<|E _ _ _<|wr<|?_
 cases H
 exact ⟨z, z, ⟨z, tv⟩, q, tv⟩
 exact nK f H fun H=>wf (vN f)<|ws<|ih _ _ H _ _ ⟨z, z, tv⟩ q z
 refine nK d H fun H=>yB i 0 z z d<|cK z z<|nl<|n _ _ _<|sQ fun af ag=>wf z<|wx<|?_
 cases H
 exact ⟨z, z, ⟨z, tv⟩, i, tv⟩
 rcases h with l | m
 rintro e r ds ah ⟨rfl, rfl, b, F, _⟩
 rw [b.eq]; clear b
 refine have J:=Hp.pick 1 [] F z;?_
 cases H
 exact rt ⟨_, _, z, z, z⟩ J
 rintro e r ds ai ⟨rfl, rfl, b, K, _⟩
 rw [b.eq]; clear b
 refine u _ _ _<|sr fun ak M=>mv z<|cX fA z<|eI z z<|aj z<|nl<|M _ _ _<|wr<|have O:=Hp.pick 1 [] K z;?_
 cases H
 exact rt ⟨_, _, z, z, z⟩ O
theorem nD {a1 b G L w} (H : gq a1 = some b) (hI : Hp G L w) :
    Calls Tryz.prog 160 [int .i64 a1].toArray w fun e w' => Hp G L w' ∧ e = .returned (bool b) := by
 refine ac (N := 9) Tryz.func160 z z (Nat.le_of_ble_eq_true z)<|?_
 unfold gq at H
 refine sr fun h c=>aj z<|nl<|c _ _ _<|sr fun i d=>mv z<|eI z z<|mv z<|bK H fun f hC H=>js 3 hI [(8, bool f)] ?_ fun _ j g=>?_
 refine have H:=hC;dC (1 ≤ a1) (fun a=>?_) fun a=>?_
 refine yK a H fun H=>mv (hw:=gY z z z (bY a)) z<|eI (hw:=gY z z z (bY a)) z z<|bR (bY a) z<|nl<|?_
 cases H
 exact je ⟨z, tv⟩ hI
 refine nK a H fun H=>Sk 2 z z (bN a) z<|b7 (bN a) z<|nl<|?_
 cases H
 exact je ⟨z, tv⟩ hI
 refine aj z<|nl<|d _ _ _<|wr<|?_
 cases H
 exact rt ⟨_, _, z, z, z⟩ g
theorem nR {a1 b G L w} (H : fM a1 = some b) (hI : Hp G L w) :
    Calls Tryz.prog 161 [int .u8 a1].toArray w fun e w' => Hp G L w' ∧ e = .returned (bool b) := by
 refine ac (N := 9) Tryz.func161 z z (Nat.le_of_ble_eq_true z)<|?_
 unfold fM at H
 refine sr fun h c=>aj z<|nl<|c _ _ _<|sr fun i d=>mv z<|eI z z<|mv z<|bK H fun f hC H=>js 3 hI [(8, bool f)] ?_ fun _ j g=>?_
 refine have H:=hC;dC (97 ≤ a1) (fun a=>?_) fun a=>?_
 refine yK a H fun H=>mv (hw:=gY z z z (bY a)) z<|eI (hw:=gY z z z (bY a)) z z<|bR (bY a) z<|nl<|?_
 cases H
 exact je ⟨z, tv⟩ hI
 refine nK a H fun H=>Sk 2 z z (bN a) z<|b7 (bN a) z<|nl<|?_
 cases H
 exact je ⟨z, tv⟩ hI
 refine aj z<|nl<|d _ _ _<|wr<|?_
 cases H
 exact rt ⟨_, _, z, z, z⟩ g
theorem nP {a1 h i A G L w} (H : ja a1 = some A) (hI : Hp G L w) (aP : a1.Keep.length ≤ i) (W : Dat Kd.str G h a1.Keep) :
    Calls Tryz.prog 128 [agg [int .i64 a1.Before, int .i64 a1.Behind, slice h a1.Keep.length i].toArray].toArray w fun e w' => Hp G L w' ∧ e = .returned (bool A) := by
 refine ac (N := 53) Tryz.func128 z z (Nat.le_of_ble_eq_true z)<|?_
 unfold ja at H
 refine sr fun K6 X=>io hI z z fun m aR B=>aj z<|nl<|X _ _ _<|sQ fun aS Y=>sr fun aT Z=>fa t6 z<|ld B 0 bv z z z<|bK H fun aa ab H=>cv C0 (nD ab B) z z fun aU t=>be z<|mv z<|bK H fun C hC H=>?_
 refine js 5 t [(1, pointer (some ⟨m, 0, none⟩)), (15, bool C)] ?_ fun _ aV u=>?_
 refine have H:=hC;dC ((!aa) = true) (fun c=>?_) fun c=>?_
 refine yK c H fun H=>Sk 4 z z (vY c) z<|bR (vY c) z<|nl<|?_
 cases H
 exact je ⟨z, z, tv⟩ t
 refine nK c H fun H=>fa (hw:=gY z z z (vN c)) tS z<|ld (hw:=gY z z z (vN c)) t 0 bv z z z<|bK H fun aW ad H=>cv (hw:=gY z z z (vN c)) C0 (nD ad t) z z fun aX af=>be (hw:=gY z z z (vN c)) z<|b7 (vN c) z<|nl<|?_
 cases H
 exact je ⟨z, z, tv⟩ af
 refine mv z<|bK H fun D hC H=>js 5 u [(1, pointer (some ⟨m, 0, none⟩)), (21, bool D)] ?_ fun _ aY E=>?_
 refine have H:=hC;dC (C = true) (fun d=>?_) fun d=>?_
 refine yK d H fun H=>Sk 4 z z (vY d) z<|bR (vY d) z<|nl<|?_
 cases H
 exact je ⟨z, z, tv⟩ u
 refine nK d H fun H=>fa (hw:=gY z z z (vN d)) ow z<|ld (hw:=gY z z z (vN d)) u 0 ul z z z<|q_len (hw:=gY z z z (vN d)) zq z<|cc (hw:=gY z z z (vN d)) z z<|b7 (vN d) z<|nl<|?_
 cases H
 exact je ⟨z, z, tv⟩ u
 refine nl<|Z _ _ _<|dC (D = true) (fun n=>?_) fun n=>?_
 refine yK n H fun H=>wt (vY n)<|sr fun aZ ag=>aj z<|nl<|ag _ _ _<|wr<|have ah:=Hp.pick 1 [] E z;?_
 cases H
 exact rt ⟨_, _, z, z, z⟩ ah
 refine nK n H fun H=>wf (vN n)<|ws<|Y _ _ _<|sr fun a0 ai=>CW (α := ByteArray) (β := Bool) string bool E fun l a2 F=>aj z<|nl<|ai _ _ _<|sQ fun a3 ak=>sr fun a4 al=>fa ow z<|ld F 1 ul z z z<|q_len zq z<|?_
 refine mv z<|nl<|al _ _ _<|wb<|bK H fun x hC H=>?_
 refine aq (Q := fun e r ds w => match (generalizing := false) x with | (Sum.inl J) => e = .ret ∧ ds = [] ∧ Has [(2, bool false)] r ∧ Hp G (nk l string bool J :: bx m [int .i64 a1.Before, int .i64 a1.Behind, slice h a1.Keep.length i] 28 :: L) w ∧ True | (Sum.inr K) => e = .exit 0 ∧ ds = [] ∧ Has [] r ∧ Hp G (nk l string bool K :: bx m [int .i64 a1.Before, int .i64 a1.Behind, slice h a1.Keep.length i] 28 :: L) w ∧ True) ?_ ?_
 refine aB fun I V=>?_
 refine dF.partial_correctness a1 (fun a M o => ∀ (r : Rg) (w : World), Has [(3, Value.map (some l)), (24, slice h a1.Keep.length i), (25, int .i64 (a1.Keep.length : Int)), (26, int .i64 a)] r → Hp G (nk l string bool M :: bx m [int .i64 a1.Before, int .i64 a1.Behind, slice h a1.Keep.length i] 28 :: L) w → o = x → I r [] w) ?_ 0 ([] : List (ByteArray × Bool)) _ hC _ _ ⟨rfl, rfl, rfl, rfl, tv⟩ F rfl
 intro _ ih a M o H r a5 k p ho
 rw [ho] at H; clear ho
 rw [k.eq]; clear k
 refine V _ _ _<|sr fun a6 am=>aN z z<|nl<|am _ _ _<|sQ fun a7 an=>dC (a < (a1.Keep.length : Int)) (fun q=>?_) fun q=>?_
 refine yK q H fun H=>wt (bY q)<|ws<|an _ _ _<|sQ fun a8 ao=>wb<|sr fun a9 ap=>iK H fun⟨O, P⟩H=>?_
 obtain ⟨bb, bc, ar, au, bd, av⟩ := Dat.get W (⟨#[]⟩ : ByteArray) (a) O P
 obtain rfl := au
 refine bP zj z ar z O P<|fO p qU z (gR.cel _ _ (av 0 _ z))<|aj z<|nl<|ap _ _ _<|sQ fun bf aw=>sr fun bg ax=>mv z<|cX fA z<|dW z z<|mv z<|bK H fun R hC H=>js 5 p [(3, Value.map (some l)), (5, string (a1.Keep.getD (Int.toNat a) (⟨#[]⟩ : ByteArray))), (24, slice h a1.Keep.length i), (25, int .i64 (a1.Keep.length : Int)), (26, int .i64 a), (38, bool R)] ?_ fun _ bh y=>?_
 refine have H:=hC;dC (¬ ((a1.Keep.getD (Int.toNat a) (⟨#[]⟩ : ByteArray)).size : Int) = 2) (fun f=>?_) fun f=>?_
 refine yK f H fun H=>Sk 4 z z (bY f) z<|bR (bY f) z<|nl<|?_
 cases H
 exact je ⟨z, z, z, z, z, z, tv⟩ p
 refine nK f H fun H=>mv (hw:=gY z z z (bN f)) z<|iK H fun⟨ay, az⟩H=>gc (hw:=gY z z z (bN f)) fA z z ay az z<|bK H fun bi aA H=>cv (hw:=gY z z z (bN f)) CG (nR aA p) z z fun bj aC=>be (hw:=gY z z z (bN f)) z<|b7 (bN f) z<|nl<|?_
 cases H
 exact je ⟨z, z, z, z, z, z, tv⟩ aC
 refine mv z<|bK H fun S hC H=>js 5 y [(3, Value.map (some l)), (5, string (a1.Keep.getD (Int.toNat a) (⟨#[]⟩ : ByteArray))), (24, slice h a1.Keep.length i), (25, int .i64 (a1.Keep.length : Int)), (26, int .i64 a), (44, bool S)] ?_ fun _ bk v=>?_
 refine have H:=hC;dC (R = true) (fun g=>?_) fun g=>?_
 refine yK g H fun H=>Sk 4 z z (vY g) z<|bR (vY g) z<|nl<|?_
 cases H
 exact je ⟨z, z, z, z, z, z, tv⟩ y
 refine nK g H fun H=>mv (hw:=gY z z z (vN g)) z<|iK H fun⟨aD, aE⟩H=>gc (hw:=gY z z z (vN g)) fA z z aD aE z<|bK H fun bl aF H=>cv (hw:=gY z z z (vN g)) CG (nR aF y) z z fun bm aG=>be (hw:=gY z z z (vN g)) z<|b7 (vN g) z<|nl<|?_
 cases H
 exact je ⟨z, z, z, z, z, z, tv⟩ aG
 refine mv z<|bK H fun T hC H=>js 4 v [(3, Value.map (some l)), (5, string (a1.Keep.getD (Int.toNat a) (⟨#[]⟩ : ByteArray))), (24, slice h a1.Keep.length i), (25, int .i64 (a1.Keep.length : Int)), (26, int .i64 a), (49, bool T)] ?_ fun _ bn U=>?_
 refine have H:=hC;dC (S = true) (fun j=>?_) fun j=>?_
 refine yK j H fun H=>Sk 3 z z (vY j) z<|bR (vY j) z<|nl<|?_
 cases H
 exact je ⟨z, z, z, z, z, z, tv⟩ v
 refine nK j H fun H=>mv (hw:=gY z z z (vN j)) z<|mv (hw:=gY z z z (vN j)) z<|CN (hw:=gY z z z (vN j)) (zv := false) v 0 yu (vh fA) zv4 z z z<|b7 (vN j) z<|nl<|?_
 cases H
 exact je ⟨z, z, z, z, z, z, tv⟩ v
 refine nl<|ax _ _ _<|dC (T = true) (fun s=>?_) fun s=>?_
 refine yK s H fun H=>wt (vY s)<|sr fun bo aH=>aj z<|nl<|aH _ _ _<|wr<|?_
 cases H
 exact ⟨z, z, ⟨z, tv⟩, U, tv⟩
 refine nK s H fun H=>wf (vN s)<|ws<|aw _ _ _<|ae<|mv z<|mv z<|CY (b := true) U 0 yu (vh fA) z z z z fun bp aI=>nl<|ao _ _ _<|ae<|ba z z<|mv z<|nl<|?_
 exact ih _ _ _ H _ _ ⟨z, z, z, z, tv⟩ aI z
 refine nK q H fun H=>wf (bN q)<|wx<|?_
 cases H
 exact ⟨z, z, trivial, p, tv⟩
 rcases x with J | K
 rintro e r ds bq ⟨rfl, rfl, k, aJ, _⟩
 rw [k.eq]; clear k
 refine have aK:=Hp.pick 2 [] aJ z;?_
 cases H
 exact rt ⟨_, _, z, z, z⟩ aK
 rintro e r ds br ⟨rfl, rfl, k, aL, _⟩
 rw [k.eq]; clear k
 refine ak _ _ _<|sr fun bs aM=>aj z<|nl<|aM _ _ _<|wr<|have aO:=Hp.pick 2 [] aL z;?_
 cases H
 exact rt ⟨_, _, z, z, z⟩ aO
theorem qz {a1 a6 k l Z aa T ab} {ad : List (ByteArray × Bool)} {af G L w} (H : gO a1 a6 = some (Z, aa, T, ab, ad, af)) (hI : Hp G L w) (X : a1.Keep.length ≤ l) (U : Dat Kd.str G k a1.Keep) :
    Calls Tryz.prog 96 [agg [int .i64 a1.Before, int .i64 a1.Behind, slice k a1.Keep.length l].toArray, string a6].toArray w fun e w' => ∃ (ag : Option Addr) (ah : Nat) (ai : Nat) (G' : Gh), G ≤ G' ∧ Hp G' (nk ai string bool ad :: L) w' ∧ T.length ≤ ah ∧ Dat Kd.str G' ag T ∧ e = .returned (tuple [agg [int .i64 Z, int .i64 aa, slice ag T.length ah, string ab, Value.map (some ai)].toArray, bool af].toArray) := by
 refine ac (N := 31) Tryz.func96 z z (Nat.le_of_ble_eq_true z)<|?_
 unfold gO at H
 refine sr fun K7 ax=>io hI z z fun A aZ ay=>aM ay yR fun y a0 ak=>aj z<|nl<|ax _ _ _<|sr fun a2 az=>d9 ak 1 jT z z z z<|mv z<|CW (α := ByteArray) (β := Bool) string bool ak fun t a3 aA=>bO (vs := [(0, agg [int .i64 a1.Before, int .i64 a1.Behind, slice k a1.Keep.length l].toArray), (1, string a6), (2, Value.map (some t))]) (cs := [int .i64 a1.Before, int .i64 a1.Behind, slice k a1.Keep.length l, string a6, Value.map (some t)]) yR EO z z<|aM aA yR fun B a4 aC=>fX aC 0 pN z z z z z z z fun a5 al=>nl<|?_
 refine az _ _ _<|sQ fun a7 aD=>sr fun a8 aE=>fa ow z<|ld al 3 ul z z z<|q_len zq z<|mv z<|nl<|aE _ _ _<|wb<|bK H fun K hC H=>?_
 refine aq (Q := fun e r ds w => e = .exit 0 ∧ ds = [] ∧ Has [(1, string a6), (2, pointer (some ⟨A, 0, none⟩)), (4, pointer (some ⟨y, 0, none⟩)), (6, pointer (some ⟨B, 0, none⟩))] r ∧ Hp G (bx B [int .i64 a1.Before, int .i64 a1.Behind, slice k a1.Keep.length l, string a6, Value.map (some t)] 147 :: nk t string bool K :: bx y [int .i64 0, int .i64 0, slice none 0 0, string (⟨#[]⟩ : ByteArray), Value.map none] 147 :: bx A [int .i64 a1.Before, int .i64 a1.Behind, slice k a1.Keep.length l] 28 :: L) w ∧ True) ?_ ?_
 refine aB fun I aw=>?_
 refine dA.partial_correctness a1 (fun V am o => ∀ (r : Rg) (w : World), Has [(1, string a6), (2, pointer (some ⟨A, 0, none⟩)), (4, pointer (some ⟨y, 0, none⟩)), (6, pointer (some ⟨B, 0, none⟩)), (14, slice k a1.Keep.length l), (15, int .i64 (a1.Keep.length : Int)), (16, int .i64 V)] r → Hp G (bx B [int .i64 a1.Before, int .i64 a1.Behind, slice k a1.Keep.length l, string a6, Value.map (some t)] 147 :: nk t string bool am :: bx y [int .i64 0, int .i64 0, slice none 0 0, string (⟨#[]⟩ : ByteArray), Value.map none] 147 :: bx A [int .i64 a1.Before, int .i64 a1.Behind, slice k a1.Keep.length l] 28 :: L) w → o = K → I r [] w) ?_ 0 ([] : List (ByteArray × Bool)) _ hC _ _ ⟨rfl, rfl, rfl, rfl, rfl, rfl, rfl, tv⟩ al rfl
 intro _ ih V am o H r a9 O W ho
 rw [ho] at H; clear ho
 rw [O.eq]; clear O
 refine aw _ _ _<|sr fun bb aF=>aN z z<|nl<|aF _ _ _<|sQ fun bc aG=>dC (V < (a1.Keep.length : Int)) (fun S=>?_) fun S=>?_
 refine yK S H fun H=>wt (bY S)<|ws<|aG _ _ _<|sQ fun bd aH=>wb<|sr fun be aI=>iK H fun⟨an, ao⟩H=>?_
 obtain ⟨bf, bg, aJ, aK, bh, aL⟩ := Dat.get U (⟨#[]⟩ : ByteArray) (V) an ao
 obtain rfl := aK
 refine bP zj z aJ z an ao<|fO W qU z (gR.cel _ _ (aL 0 _ z))<|aj z<|nl<|aI _ _ _<|ae<|fa yt z<|ld W 0 CE z z z<|mv z<|CY (b := true) W 1 yu (vh fA) z z z z fun bi aO=>nl<|aH _ _ _<|ae<|ba z z<|?_
 exact mv z<|nl<|ih _ _ _ H _ _ ⟨z, z, z, z, z, z, z, tv⟩ aO z
 refine nK S H fun H=>wf (bN S)<|wx<|?_
 cases H
 exact ⟨z, z, ⟨z, z, z, z, tv⟩, W, tv⟩
 rintro e r ds bj ⟨rfl, rfl, O, ar, _⟩
 rw [O.eq]; clear O
 refine aD _ _ _<|sQ fun bk aP=>bK H fun aQ hC H=>?_
 refine jC .normal G [(4, pointer (some ⟨y, 0, none⟩)), (5, bool aQ)] (bx B [int .i64 a1.Before, int .i64 a1.Behind, slice k a1.Keep.length l, string a6, Value.map (some t)] 147 :: nk t string bool K :: bx y [int .i64 a1.Before, int .i64 a1.Behind, slice k a1.Keep.length l, string a6, Value.map (some t)] 147 :: bx A [int .i64 a1.Before, int .i64 a1.Behind, slice k a1.Keep.length l] 28 :: L) ?_ fun _ bl au=>?_
 refine have H:=hC;bK H fun E av H=>dC (E = true) (fun C=>?_) fun C=>?_
 refine yK C H fun H=>bK H fun M aR H=>?_
 refine eC [0, 0, 2, 6, 14, 30, 62, 63, 255] (fun D r w => (D 7 = false ∧ ∃ (G' : Gh), G ≤ G' ∧ ap [(1, string a6), (2, pointer (some ⟨A, 0, none⟩)), (4, pointer (some ⟨y, 0, none⟩)), (6, pointer (some ⟨B, 0, none⟩))] [] [(0, 24, agg [int .i64 a1.Before, int .i64 a1.Behind, slice k a1.Keep.length l, string a6, Value.map (some t)].toArray), (1, 25, agg [int .i64 a1.Before, int .i64 a1.Behind, slice k a1.Keep.length l].toArray), (2, 26, bool E), (3, 27, bool E), (4, 28, string a6), (5, 29, bool M), (6, 30, bool M)] D r ∧ Hp G' (bx B [int .i64 a1.Before, int .i64 a1.Behind, slice k a1.Keep.length l, string a6, Value.map (some t)] 147 :: nk t string bool K :: bx y [int .i64 0, int .i64 0, slice none 0 0, string (⟨#[]⟩ : ByteArray), Value.map none] 147 :: bx A [int .i64 a1.Before, int .i64 a1.Behind, slice k a1.Keep.length l] 28 :: L) w) ∨ (D 7 = true ∧ ∃ (G' : Gh), G ≤ G' ∧ ap [(1, string a6), (2, pointer (some ⟨A, 0, none⟩)), (4, pointer (some ⟨y, 0, none⟩)), (6, pointer (some ⟨B, 0, none⟩))] [] [(0, 24, agg [int .i64 a1.Before, int .i64 a1.Behind, slice k a1.Keep.length l, string a6, Value.map (some t)].toArray), (1, 25, agg [int .i64 a1.Before, int .i64 a1.Behind, slice k a1.Keep.length l].toArray), (2, 26, bool E), (3, 27, bool E), (4, 28, string a6), (5, 29, bool M), (6, 30, bool M), (8, 5, bool M)] D r ∧ Hp G' (bx B [int .i64 a1.Before, int .i64 a1.Behind, slice k a1.Keep.length l, string a6, Value.map (some t)] 147 :: nk t string bool K :: bx y [int .i64 a1.Before, int .i64 a1.Behind, slice k a1.Keep.length l, string a6, Value.map (some t)] 147 :: bx A [int .i64 a1.Before, int .i64 a1.Behind, slice k a1.Keep.length l] 28 :: L) w)) jD z z ?_ ?_ ?_
 exact (.inl ⟨z, _, Gh.le_refl _, ap.start ⟨z, z, z, z, tv⟩ trivial, ar.drew⟩)
 refine ⟨?_, ?_, ?_, ?_, ?_, ?_, ?_, ?_, ?_, tv⟩
 rintro D r F (⟨i, v, q, a, m⟩ | ⟨j, v, q, a, m⟩) f d p
 obtain ⟨u, rfl⟩ := Has.ex (cC (a.ins.get 3 rfl) cN)
 exact d9 m 0 pN z z z z<|nl ⟨z, (.inl ⟨i, _, q, (ap.step a f z z z z), m⟩)⟩
 cases (p 7 rfl).symm.trans j
 rintro D r F (⟨i, v, q, a, m⟩ | ⟨j, v, q, a, m⟩) f d p
 obtain ⟨u, rfl⟩ := Has.ex (cC (a.ins.get 1 rfl) cN)
 exact d9 m 3 jT z z z z<|nl ⟨z, (.inl ⟨i, _, q, (ap.step a f z z z z), m⟩)⟩
 cases (p 7 rfl).symm.trans j
 rintro D r F (⟨i, v, q, a, m⟩ | ⟨j, v, q, a, m⟩) f d p
 obtain ⟨u, rfl⟩ := Has.ex (cC (a.get 1 rfl (d 1 rfl)) cN)
 exact cv CP (nP av m X (Dat.mono q U)) z z fun aS Y=>nl ⟨z, (.inl ⟨i, _, q, (ap.step a f z z z z), Y⟩)⟩
 cases (p 7 rfl).symm.trans j
 rintro D r F (⟨i, v, q, a, m⟩ | ⟨j, v, q, a, m⟩) f d p
 obtain ⟨u, rfl⟩ := Has.ex (cC (a.get 2 rfl (d 2 rfl)) cN)
 exact mv z<|nl ⟨z, (.inl ⟨i, _, q, (ap.step a f z z z z), m⟩)⟩
 cases (p 7 rfl).symm.trans j
 rintro D r F (⟨i, v, q, a, m⟩ | ⟨j, v, q, a, m⟩) f d p
 obtain ⟨u, rfl⟩ := Has.ex (cC (a.ins.get 0 rfl) (cC (a.get 3 rfl (d 3 rfl)) cN))
 exact mv (hw:=gY z z z (vY C)) z<|nl ⟨z, (.inl ⟨i, _, q, (ap.step a f z z z z), m⟩)⟩
 cases (p 7 rfl).symm.trans j
 rintro D r F (⟨i, v, q, a, m⟩ | ⟨j, v, q, a, m⟩) f d p
 obtain ⟨u, rfl⟩ := Has.ex (cC (a.get 3 rfl (d 3 rfl)) (cC (a.get 4 rfl (d 4 rfl)) cN))
 exact cv (hw:=gY z z z (vY C)) zP (ij aR m) z z fun bm aT=>nl ⟨z, (.inl ⟨i, _, q, (ap.step a f z z z z), aT⟩)⟩
 cases (p 7 rfl).symm.trans j
 rintro D r F (⟨i, v, q, a, m⟩ | ⟨j, v, q, a, m⟩) f d p
 obtain ⟨u, rfl⟩ := Has.ex (cC (a.get 3 rfl (d 3 rfl)) (cC (a.get 5 rfl (d 5 rfl)) cN))
 exact bR (vY C) z<|nl ⟨z, (.inl ⟨i, _, q, (ap.step a f z z z z), m⟩)⟩
 obtain ⟨u, rfl⟩ := Has.ex (cC (a.get 3 rfl (d 3 rfl)) (cC (a.get 5 rfl (d 5 rfl)) cN))
 exact bR (vY C) z<|nl ⟨z, (.inr ⟨j, _, q, (ap.step a f z z z z), m⟩)⟩
 rintro D r F (⟨i, v, q, a, m⟩ | ⟨j, v, q, a, m⟩) f d p
 obtain ⟨u, rfl⟩ := Has.ex (cC (a.ins.get 2 rfl) (cC (a.get 0 rfl (d 0 rfl)) cN))
 exact fX m 2 pN z z z z z z z fun bn aU=>nl ⟨z, (.inr ⟨z, _, q, (ap.stepN (ap.more (new := [(8, 5, bool M)]) a (List.forall_mem_cons.2 ⟨p 8 z, (fun _ h => nomatch h)⟩)) z z), aU⟩)⟩
 cases f.symm.trans j
 rintro D r F (⟨i, v, q, a, m⟩ | ⟨j, v, q, a, m⟩) f d p
 cases (d 7 rfl).symm.trans i
 obtain ⟨u, rfl⟩ := Has.ex (cC (a.get 6 rfl (d 6 rfl)) cN)
 exact aj z<|nl ⟨z, (.inr ⟨j, _, q, (ap.step a f z z z z), m⟩)⟩
 intro D r F R hR
 rcases hR with ⟨i, v, q, a, m⟩ | ⟨j, v, q, a, m⟩
 cases (R 7 (Nat.le_of_ble_eq_true rfl)).symm.trans i
 obtain ⟨u, rfl⟩ := Has.ex (cC (a.ins.get 2 rfl) (cC (a.get 7 rfl (R 8 (Nat.le_of_ble_eq_true rfl))) cN))
 cases H
 exact je ⟨z, z, tv⟩ (Hp.low q m)
 refine nK C H fun H=>?_
 refine eC [0, 0, 2, 6, 14, 30, 62, 63, 255] (fun D r w => (D 7 = false ∧ ∃ (G' : Gh), G ≤ G' ∧ ap [(2, pointer (some ⟨A, 0, none⟩)), (4, pointer (some ⟨y, 0, none⟩)), (6, pointer (some ⟨B, 0, none⟩))] [] [(0, 24, agg [int .i64 a1.Before, int .i64 a1.Behind, slice k a1.Keep.length l, string a6, Value.map (some t)].toArray), (1, 25, agg [int .i64 a1.Before, int .i64 a1.Behind, slice k a1.Keep.length l].toArray), (2, 26, bool E), (3, 27, bool E), (4, 28, undef), (5, 29, undef), (6, 30, bool false)] D r ∧ Hp G' (bx B [int .i64 a1.Before, int .i64 a1.Behind, slice k a1.Keep.length l, string a6, Value.map (some t)] 147 :: nk t string bool K :: bx y [int .i64 0, int .i64 0, slice none 0 0, string (⟨#[]⟩ : ByteArray), Value.map none] 147 :: bx A [int .i64 a1.Before, int .i64 a1.Behind, slice k a1.Keep.length l] 28 :: L) w) ∨ (D 7 = true ∧ ∃ (G' : Gh), G ≤ G' ∧ ap [(2, pointer (some ⟨A, 0, none⟩)), (4, pointer (some ⟨y, 0, none⟩)), (6, pointer (some ⟨B, 0, none⟩))] [] [(0, 24, agg [int .i64 a1.Before, int .i64 a1.Behind, slice k a1.Keep.length l, string a6, Value.map (some t)].toArray), (1, 25, agg [int .i64 a1.Before, int .i64 a1.Behind, slice k a1.Keep.length l].toArray), (2, 26, bool E), (3, 27, bool E), (4, 28, undef), (5, 29, undef), (6, 30, bool false), (8, 5, bool false)] D r ∧ Hp G' (bx B [int .i64 a1.Before, int .i64 a1.Behind, slice k a1.Keep.length l, string a6, Value.map (some t)] 147 :: nk t string bool K :: bx y [int .i64 a1.Before, int .i64 a1.Behind, slice k a1.Keep.length l, string a6, Value.map (some t)] 147 :: bx A [int .i64 a1.Before, int .i64 a1.Behind, slice k a1.Keep.length l] 28 :: L) w)) jD z z ?_ ?_ ?_
 exact (.inl ⟨z, _, Gh.le_refl _, ap.start ⟨z, z, z, tv⟩ trivial, ar.drew⟩)
 refine ⟨?_, ?_, ?_, ?_, ?_, ?_, ?_, ?_, ?_, tv⟩
 rintro D r J (⟨i, x, s, c, n⟩ | ⟨j, x, s, c, n⟩) f d p
 obtain ⟨u, rfl⟩ := Has.ex (cC (c.ins.get 2 rfl) cN)
 exact d9 n 0 pN z z z z<|nl ⟨z, (.inl ⟨i, _, s, (ap.step c f z z z z), n⟩)⟩
 cases (p 7 rfl).symm.trans j
 rintro D r J (⟨i, x, s, c, n⟩ | ⟨j, x, s, c, n⟩) f d p
 obtain ⟨u, rfl⟩ := Has.ex (cC (c.ins.get 0 rfl) cN)
 exact d9 n 3 jT z z z z<|nl ⟨z, (.inl ⟨i, _, s, (ap.step c f z z z z), n⟩)⟩
 cases (p 7 rfl).symm.trans j
 rintro D r J (⟨i, x, s, c, n⟩ | ⟨j, x, s, c, n⟩) f d p
 obtain ⟨u, rfl⟩ := Has.ex (cC (c.get 1 rfl (d 1 rfl)) cN)
 exact cv CP (nP av n X (Dat.mono s U)) z z fun aS Y=>nl ⟨z, (.inl ⟨i, _, s, (ap.step c f z z z z), Y⟩)⟩
 cases (p 7 rfl).symm.trans j
 rintro D r J (⟨i, x, s, c, n⟩ | ⟨j, x, s, c, n⟩) f d p
 obtain ⟨u, rfl⟩ := Has.ex (cC (c.get 2 rfl (d 2 rfl)) cN)
 exact mv z<|nl ⟨z, (.inl ⟨i, _, s, (ap.step c f z z z z), n⟩)⟩
 cases (p 7 rfl).symm.trans j
 rintro D r J (⟨i, x, s, c, n⟩ | ⟨j, x, s, c, n⟩) f d p
 obtain ⟨u, rfl⟩ := Has.ex (cC (c.get 3 rfl (d 3 rfl)) cN)
 exact wN (gN z z z (vN C) z)<|nl ⟨z, (.inl ⟨i, _, s, (ap.step c f z z z z), n⟩)⟩
 cases (p 7 rfl).symm.trans j
 rintro D r J (⟨i, x, s, c, n⟩ | ⟨j, x, s, c, n⟩) f d p
 obtain ⟨u, rfl⟩ := Has.ex (cC (c.get 3 rfl (d 3 rfl)) cN)
 exact wN (gN z z z (vN C) z)<|nl ⟨z, (.inl ⟨i, _, s, (ap.step c f z z z z), n⟩)⟩
 cases (p 7 rfl).symm.trans j
 rintro D r J (⟨i, x, s, c, n⟩ | ⟨j, x, s, c, n⟩) f d p
 obtain ⟨u, rfl⟩ := Has.ex (cC (c.get 3 rfl (d 3 rfl)) (cC (c.get 5 rfl (d 5 rfl)) cN))
 exact b7 (vN C) z<|nl ⟨z, (.inl ⟨i, _, s, (ap.step c f z z z z), n⟩)⟩
 obtain ⟨u, rfl⟩ := Has.ex (cC (c.get 3 rfl (d 3 rfl)) (cC (c.get 5 rfl (d 5 rfl)) cN))
 exact b7 (vN C) z<|nl ⟨z, (.inr ⟨j, _, s, (ap.step c f z z z z), n⟩)⟩
 rintro D r J (⟨i, x, s, c, n⟩ | ⟨j, x, s, c, n⟩) f d p
 obtain ⟨u, rfl⟩ := Has.ex (cC (c.ins.get 1 rfl) (cC (c.get 0 rfl (d 0 rfl)) cN))
 exact fX n 2 pN z z z z z z z fun bo aV=>nl ⟨z, (.inr ⟨z, _, s, (ap.stepN (ap.more (new := [(8, 5, bool false)]) c (List.forall_mem_cons.2 ⟨p 8 z, (fun _ h => nomatch h)⟩)) z z), aV⟩)⟩
 cases f.symm.trans j
 rintro D r J (⟨i, x, s, c, n⟩ | ⟨j, x, s, c, n⟩) f d p
 cases (d 7 rfl).symm.trans i
 obtain ⟨u, rfl⟩ := Has.ex (cC (c.get 6 rfl (d 6 rfl)) cN)
 exact aj z<|nl ⟨z, (.inr ⟨j, _, s, (ap.step c f z z z z), n⟩)⟩
 intro D r J R hR
 rcases hR with ⟨i, x, s, c, n⟩ | ⟨j, x, s, c, n⟩
 cases (R 7 (Nat.le_of_ble_eq_true rfl)).symm.trans i
 obtain ⟨u, rfl⟩ := Has.ex (cC (c.ins.get 1 rfl) (cC (c.get 7 rfl (R 8 (Nat.le_of_ble_eq_true rfl))) cN))
 cases H
 exact je ⟨z, z, tv⟩ (Hp.low s n)
 refine aP _ _ _<|wr<|have aW:=bW (P := Tryz.prog) au 2 (cs := [int .i64 a1.Before, int .i64 a1.Behind, slice k a1.Keep.length l, string a6, Value.map (some t)]) (g := y) (o := 0) pN z z z;have aX:=Hp.pick 4 [1] au z;?_
 cases H
 exact ⟨.inr z, z, _, ⟨_, _, _, z, z, aW, ⟨_, _, z, z, z⟩⟩, k, l, t, _, gR, aX, X, U, z⟩
theorem kT {a1 c G L w} (H : gr a1 = some c) (hI : Hp G L w) :
    Calls Tryz.prog 162 [int .u8 a1].toArray w fun e w' => Hp G L w' ∧ e = .returned (bool c) := by
 refine ac (N := 11) Tryz.func162 z z (Nat.le_of_ble_eq_true z)<|?_
 unfold gr at H
 refine sr fun m d=>aj z<|nl<|d _ _ _<|sr fun n f=>mv z<|bK H fun g h H=>cv we (fe h hI) z z fun o b=>bA z z<|mv z<|bK H fun i hC H=>js 4 b [(10, bool i)] ?_ fun _ p j=>?_
 refine have H:=hC;dC (g = 1) (fun a=>?_) fun a=>?_
 refine yK a H fun H=>Sk 3 z z (bY a) z<|bR (bY a) z<|nl<|?_
 cases H
 exact je ⟨z, tv⟩ b
 refine nK a H fun H=>mv (hw:=gY z z z (bN a)) z<|bK H fun q k H=>cv (hw:=gY z z z (bN a)) we (fe k b) z z fun r l=>bA (hw:=gY z z z (bN a)) z z<|b7 (bN a) z<|nl<|?_
 cases H
 exact je ⟨z, tv⟩ l
 refine aj z<|nl<|f _ _ _<|wr<|?_
 cases H
 exact rt ⟨_, _, z, z, z⟩ j
theorem nT {a1 c G L w} (H : im a1 = some c) (hI : Hp G L w) :
    Calls Tryz.prog 130 [int .u8 a1].toArray w fun e w' => Hp G L w' ∧ e = .returned (bool c) := by
 refine ac (N := 10) Tryz.func130 z z (Nat.le_of_ble_eq_true z)<|?_
 unfold im at H
 refine sr fun m d=>aj z<|nl<|d _ _ _<|sr fun n f=>mv z<|bK H fun g h H=>cv Af (kT h hI) z z fun o b=>mv z<|bK H fun i hC H=>js 4 b [(9, bool i)] ?_ fun _ p j=>?_
 refine have H:=hC;dC (g = true) (fun a=>?_) fun a=>?_
 refine yK a H fun H=>Sk 3 z z (vY a) z<|bR (vY a) z<|nl<|?_
 cases H
 exact je ⟨z, tv⟩ b
 refine nK a H fun H=>mv (hw:=gY z z z (vN a)) z<|bK H fun q k H=>cv (hw:=gY z z z (vN a)) we (fe k b) z z fun r l=>bA (hw:=gY z z z (vN a)) z z<|b7 (vN a) z<|nl<|?_
 cases H
 exact je ⟨z, tv⟩ l
 refine aj z<|nl<|f _ _ _<|wr<|?_
 cases H
 exact rt ⟨_, _, z, z, z⟩ j
theorem m6 {a1 a2 a h} {d : List (ByteArray × Bool)} {f g b i j c k G L w} (H : eQ a1 a2 a h d = some (i, j, c, k)) (hI : Hp G (nk b string bool d :: L) w) (p : a.length ≤ g) (q : Dat Kd.str G f a) :
    Calls Tryz.prog 97 [agg [int .i64 a1, int .i64 a2, slice f a.length g, string h, Value.map (some b)].toArray].toArray w fun e w' => ∃ (l : Nat) (m : Option Addr) (n : Nat) (G' : Gh), G ≤ G' ∧ Hp G' (bx l [int .i64 i, int .i64 j, slice m c.length n, string k, Value.map (some b)] 147 :: nk b string bool d :: L) w' ∧ c.length ≤ n ∧ Dat Kd.str G' m c ∧ e = .returned (func (.func 129) [].toArray [pointer (some ⟨l, 0, none⟩)].toArray) := by
 refine ac (N := 4) Tryz.func97 z z (Nat.le_of_ble_eq_true z)<|?_
 unfold eQ at H
 refine sr fun u r=>io hI z z fun o v s=>aj z<|nl<|r _ _ _<|sr fun x t=>qG (vs := []) (us := [pointer (some ⟨o, 0, none⟩)]) z z<|aj z<|nl<|t _ _ _<|wr<|?_
 cases H
 exact ⟨.inr z, z, _, ⟨_, _, z, z, z⟩, o, f, g, _, gR, s, p, q, z⟩
theorem iN {h a6 l d m} {n : List (ByteArray × Bool)} {i j o p k r G L w} (H : br h a6 l d m n = some r) (hI : Hp G (bx i [int .i64 h] 3 :: bx j [int .i64 a6, int .i64 l, slice o d.length p, string m, Value.map (some k)] 147 :: nk k string bool n :: L) w) (I : d.length ≤ p) (J : Dat Kd.str G o d) :
    Calls Tryz.prog 178 [pointer (some ⟨i, 0, none⟩), pointer (some ⟨j, 0, none⟩)].toArray w fun e w' => Hp G (bx i [int .i64 h] 3 :: bx j [int .i64 a6, int .i64 l, slice o d.length p, string m, Value.map (some k)] 147 :: nk k string bool n :: L) w' ∧ e = .returned (bool r) := by
 refine ac (N := 26) Tryz.func178 z z (Nat.le_of_ble_eq_true z)<|?_
 unfold br at H
 refine sr fun K s=>aj z<|nl<|s _ _ _<|sr fun M t=>ld hI 0 bv z z z<|gM z z<|mv z<|bK H fun q hC H=>js 6 hI [(0, pointer (some ⟨i, 0, none⟩)), (1, pointer (some ⟨j, 0, none⟩)), (11, bool q)] ?_ fun _ O f=>?_
 refine have H:=hC;dC (0 ≤ h) (fun b=>?_) fun b=>?_
 refine yK b H fun H=>ld (hw:=gY z z z (bY b)) hI 0 bv z z z<|fa (hw:=gY z z z (bY b)) ip z<|ld (hw:=gY z z z (bY b)) hI 1 qU z z z<|cX (hw:=gY z z z (bY b)) fA z<|aN (hw:=gY z z z (bY b)) z z<|bR (bY b) z<|nl<|?_
 cases H
 exact je ⟨z, z, z, tv⟩ hI
 refine nK b H fun H=>Sk 5 z z (bN b) z<|b7 (bN b) z<|nl<|?_
 cases H
 exact je ⟨z, z, z, tv⟩ hI
 refine mv z<|bK H fun u hC H=>js 13 f [(25, bool u)] ?_ fun _ P v=>?_
 refine have H:=hC;dC (q = true) (fun a=>?_) fun a=>?_
 refine yK a H fun H=>fa (hw:=gY z z z (vY a)) ip z<|ld (hw:=gY z z z (vY a)) f 1 qU z z z<|ld (hw:=gY z z z (vY a)) f 0 bv z z z<|iK H fun⟨x, y⟩H=>gc (hw:=gY z z z (vY a)) fA z z x y z<|bK H fun A B H=>cv (hw:=gY z z z (vY a)) Af (kT B f) z z fun Q g=>mv (hw:=gY z z z (vY a)) z<|bK H fun C hC H=>js 6 g [(12, bool q), (24, bool C)] ?_ fun _ R D=>?_
 refine have H:=hC;dC (A = true) (fun c=>?_) fun c=>?_
 refine yK c H fun H=>Sk 5 z z (vY c) z<|bR (hw:=gY z z z (vY a)) (vY c) z<|nl<|?_
 cases H
 exact je ⟨z, z, tv⟩ g
 refine nK c H fun H=>fa (hw:=gY z z z (vN c)) ip z<|ld (hw:=gY z z z (vN c)) g 1 qU z z z<|ld (hw:=gY z z z (vN c)) g 0 bv z z z<|iK H fun⟨E, F⟩H=>gc (hw:=gY z z z (vN c)) fA z z E F z<|bA (hw:=gY z z z (vN c)) z z<|b7 (hw:=gY z z z (vY a)) (vN c) z<|nl<|?_
 cases H
 exact je ⟨z, z, tv⟩ g
 refine bR (vY a) z<|nl<|?_
 cases H
 exact je ⟨z, tv⟩ D
 refine nK a H fun H=>Sk 6 z z (vN a) z<|Su 5 z<|wN (gN z z z (vN a) z)<|b7 (vN a) z<|nl<|?_
 cases H
 exact je ⟨z, tv⟩ f
 refine aj z<|nl<|t _ _ _<|wr<|?_
 cases H
 exact rt ⟨_, _, z, z, z⟩ v
theorem jr {a1 a2 g a} {h : List (ByteArray × Bool)} {V af i j f ar G L w} (H : bL a1 a2 g a h V af = some ar) (hI : Hp G (nk f string bool h :: L) w) (au : g.length ≤ j) (av : Dat Kd.str G i g) :
    Calls Tryz.prog 163 [agg [int .i64 a1, int .i64 a2, slice i g.length j, string a, Value.map (some f)].toArray, int .i64 V, bool af].toArray w fun e w' => Hp G (nk f string bool h :: L) w' ∧ e = .returned (string ar) := by
 refine ac (N := 33) Tryz.func163 z z (Nat.le_of_ble_eq_true z)<|?_
 unfold bL at H
 refine sr fun b4 aH=>io hI z z fun c b5 aI=>io aI z z fun d b6 ag=>aj z<|nl<|aH _ _ _<|sr fun b7 aJ=>aj z<|nl<|aJ _ _ _<|sr fun b8 aK=>aj z<|nl<|aK _ _ _<|?_
 refine sQ fun b9 aw=>sr fun ca aL=>mv z<|nl<|aL _ _ _<|dC (af = true) (fun C=>?_) fun C=>?_
 refine yK C H fun H=>wt (vY C)<|ae<|ld ag 0 bv z z z<|dl z z<|fX ag 0 bv z z z z z z z fun cb aM=>aj z<|nl<|aw _ _ _<|sr fun cc aN=>qG (vs := []) (us := [pointer (some ⟨d, 0, none⟩), pointer (some ⟨c, 0, none⟩)]) z z<|aj z<|nl<|aN _ _ _<|?_
 refine sQ fun cd aO=>wb<|iJ H fun D ay hC H=>?_
 refine aq (Q := fun e r ds w => e = .exit 0 ∧ ∃ (E : Option Addr) (F : Nat) (W : Gh), ds = [] ∧ G ≤ W ∧ Has [(7, slice E D.length F)] r ∧ Hp W (bx d [int .i64 ay] 3 :: bx c [int .i64 a1, int .i64 a2, slice i g.length j, string a, Value.map (some f)] 147 :: nk f string bool h :: tk (slice E D.length F) 1 5 :: L) w ∧ D.length ≤ F ∧ Dat (Kd.int .u8) W E D ∧ Own E F ∧ True) ?_ ?_
 refine have aP:=Hp.emp aM;have aQ:=Hp.pick 4 [1, 2, 3, 0] aP z;aB fun I ad=>?_
 refine bQ.partial_correctness a1 a2 g a h (fun u k o => ∀ (m : Option Addr) (n : Nat) (J : Gh) (r : Rg) (w : World), G ≤ J → Has [(3, pointer (some ⟨c, 0, none⟩)), (4, pointer (some ⟨d, 0, none⟩)), (7, slice m u.length n), (8, int .i64 (-1)), (9, func (.func 178) [].toArray [pointer (some ⟨d, 0, none⟩), pointer (some ⟨c, 0, none⟩)].toArray)] r → Hp J (bx d [int .i64 k] 3 :: bx c [int .i64 a1, int .i64 a2, slice i g.length j, string a, Value.map (some f)] 147 :: nk f string bool h :: tk (slice m u.length n) 1 5 :: L) w → u.length ≤ n → Dat (Kd.int .u8) J m u → Own m n → o = (D, ay) → I r [] w) ?_ ([] : List Int) (ax (V - 1)) _ hC none 0 _ _ _ gR ⟨rfl, rfl, rfl, rfl, rfl, tv⟩ aQ (show ([] : List Int).length ≤ 0 from Nat.le_refl 0) (Dat.nil _ _ _) Own.nil rfl
 intro _ ih u k o H m n J r ce ah b aR ai ak al ho
 rw [ho] at H; clear ho
 rw [b.eq]; clear b
 refine ad _ _ _<|sQ fun cf aS=>sr fun cg aT=>mv z<|bK H fun aU aV H=>cv CD (iN aV aR au (Dat.mono ah av)) z z fun ch p=>nl<|aT _ _ _<|dC (aU = true) (fun K=>?_) fun K=>?_
 refine yK K H fun H=>wt (vY K)<|ws<|aS _ _ _<|sQ fun ci aW=>bK H fun X hC H=>?_
 refine aq (Q := fun e r ds w => e = .normal ∧ ∃ (v : Option Addr) (x : Nat) (Y : Gh), ds = [] ∧ J ≤ Y ∧ Has [(3, pointer (some ⟨c, 0, none⟩)), (4, pointer (some ⟨d, 0, none⟩)), (7, slice v X.length x), (8, int .i64 (-1)), (9, func (.func 178) [].toArray [pointer (some ⟨d, 0, none⟩), pointer (some ⟨c, 0, none⟩)].toArray)] r ∧ Hp Y (bx d [int .i64 k] 3 :: bx c [int .i64 a1, int .i64 a2, slice i g.length j, string a, Value.map (some f)] 147 :: nk f string bool h :: tk (slice v X.length x) 1 5 :: L) w ∧ X.length ≤ x ∧ Dat (Kd.int .u8) Y v X ∧ Own v x ∧ True) ?_ ?_
 refine have H:=hC;wb<|sr fun cj aX=>fa ip z<|ld p 1 qU z z z<|ld p 0 bv z z z<|iK H fun⟨aY, aZ⟩H=>gc fA z z aY aZ z<|dW z z<|nl<|aX _ _ _<|dC (¬ (bt a k) = 126) (fun M=>?_) fun M=>?_
 refine yK M H fun H=>wt (bY M)<|ae<|mv z<|fa ip z<|ld p 1 qU z z z<|ld p 0 bv z z z<|iK H fun⟨a0, a4⟩H=>gc fA z z a0 a4 z<|?_
 refine mm p (vs := [(0, int .u8 (bt a k))]) (cs := [int .u8 (bt a k)]) jM Ad rfl (by decide) rfl rfl (fun ck cl az => ?_)
 refine iK H fun cm H=>?_
 refine lu (xs := u) (ys := [bt a k]) (Kd.int .u8) az 4 jM Ad rfl rfl rfl rfl al ai ak (jF az 0 sd rfl rfl) ⟨[int .u8 (bt a k)], _, rfl, rfl, rfl⟩ rfl (by simp only [List.length_cons, List.length_nil]; omega) (by simp only [List.length_cons, List.length_nil]; omega) (fun a5 a6 cn co a7 a9 bb bc bd => ?_)
 refine aj z<|nl<|have be:=Hp.pick 5 [1, 2, 3, 4] bd z;?_
 cases H
 exact ⟨z, a5, a6, _, z, a7, ⟨z, z, z, z, z, tv⟩, be, bb, bc, a9, tv⟩
 refine nK M H fun H=>wf (bN M)<|ws<|?_
 cases H
 exact ⟨z, m, n, _, z, gR, ⟨z, z, z, z, z, tv⟩, p, ai, ak, al, tv⟩
 rintro e r ds cp ⟨rfl, v, x, Y, rfl, bf, b, aA, bg, bh, bi, _⟩
 rw [b.eq]; clear b
 exact aW _ _ _<|ae<|ld aA 0 bv z z z<|mv z<|ba z z<|fX aA 0 bv z z z z z z z fun cq bj=>nl<|ih _ _ _ H v x _ _ _ (gT ah bf) ⟨z, z, z, z, z, tv⟩ bj bg bh bi z
 refine nK K H fun H=>wf (vN K)<|wx<|?_
 cases H
 exact ⟨z, m, n, _, z, ah, ⟨z, tv⟩, p, ai, ak, al, tv⟩
 rintro e r ds cr ⟨rfl, E, F, W, rfl, bk, b, aC, ct, bl, cu, _⟩
 rw [b.eq]; clear b
 refine aO _ _ _<|sr fun cw bm=>mv z<|wa aC jM Az fA z z bl<|aj z<|nl<|bm _ _ _<|wr<|have bn:=Hp.pick 4 [2] aC z;?_
 cases H
 exact rt ⟨_, _, z, z, z⟩ (Hp.low bk bn)
 refine nK C H fun H=>wf (vN C)<|ws<|aw _ _ _<|sr fun cx bo=>qG (vs := []) (us := [pointer (some ⟨d, 0, none⟩), pointer (some ⟨c, 0, none⟩)]) z z<|aj z<|nl<|bo _ _ _<|sQ fun cy bp=>wb<|iJ H fun O aD hC H=>?_
 refine aq (Q := fun e r ds w => e = .exit 0 ∧ ∃ (P : Option Addr) (R : Nat) (Z : Gh), ds = [] ∧ G ≤ Z ∧ Has [(7, slice P O.length R)] r ∧ Hp Z (bx d [int .i64 aD] 3 :: bx c [int .i64 a1, int .i64 a2, slice i g.length j, string a, Value.map (some f)] 147 :: nk f string bool h :: tk (slice P O.length R) 1 5 :: L) w ∧ O.length ≤ R ∧ Dat (Kd.int .u8) Z P O ∧ Own P R ∧ True) ?_ ?_
 refine have bq:=Hp.emp ag;have br:=Hp.pick 4 [1, 2, 3, 0] bq z;aB fun I ad=>?_
 refine bI.partial_correctness a1 a2 g a h (fun y l o => ∀ (q : Option Addr) (s : Nat) (S : Gh) (r : Rg) (w : World), G ≤ S → Has [(3, pointer (some ⟨c, 0, none⟩)), (4, pointer (some ⟨d, 0, none⟩)), (7, slice q y.length s), (8, int .i64 1), (9, func (.func 178) [].toArray [pointer (some ⟨d, 0, none⟩), pointer (some ⟨c, 0, none⟩)].toArray)] r → Hp S (bx d [int .i64 l] 3 :: bx c [int .i64 a1, int .i64 a2, slice i g.length j, string a, Value.map (some f)] 147 :: nk f string bool h :: tk (slice q y.length s) 1 5 :: L) w → y.length ≤ s → Dat (Kd.int .u8) S q y → Own q s → o = (O, aD) → I r [] w) ?_ ([] : List Int) V _ hC none 0 _ _ _ gR ⟨rfl, rfl, rfl, rfl, rfl, tv⟩ br (show ([] : List Int).length ≤ 0 from Nat.le_refl 0) (Dat.nil _ _ _) Own.nil rfl
 intro _ ih y l o H q s S r cz am b bs an ao ap ho
 rw [ho] at H; clear ho
 rw [b.eq]; clear b
 refine ad _ _ _<|sQ fun cA bu=>sr fun cB bw=>mv z<|bK H fun bz bA H=>cv CD (iN bA bs au (Dat.mono am av)) z z fun cC t=>nl<|bw _ _ _<|dC (bz = true) (fun T=>?_) fun T=>?_
 refine yK T H fun H=>wt (vY T)<|ws<|bu _ _ _<|sQ fun cD bB=>bK H fun aa hC H=>?_
 refine aq (Q := fun e r ds w => e = .normal ∧ ∃ (A : Option Addr) (B : Nat) (ab : Gh), ds = [] ∧ S ≤ ab ∧ Has [(3, pointer (some ⟨c, 0, none⟩)), (4, pointer (some ⟨d, 0, none⟩)), (7, slice A aa.length B), (8, int .i64 1), (9, func (.func 178) [].toArray [pointer (some ⟨d, 0, none⟩), pointer (some ⟨c, 0, none⟩)].toArray)] r ∧ Hp ab (bx d [int .i64 l] 3 :: bx c [int .i64 a1, int .i64 a2, slice i g.length j, string a, Value.map (some f)] 147 :: nk f string bool h :: tk (slice A aa.length B) 1 5 :: L) w ∧ aa.length ≤ B ∧ Dat (Kd.int .u8) ab A aa ∧ Own A B ∧ True) ?_ ?_
 refine have H:=hC;wb<|sr fun cE bC=>fa ip z<|ld t 1 qU z z z<|ld t 0 bv z z z<|iK H fun⟨bD, bE⟩H=>gc fA z z bD bE z<|dW z z<|nl<|bC _ _ _<|dC (¬ (bt a l) = 126) (fun U=>?_) fun U=>?_
 refine yK U H fun H=>wt (bY U)<|ae<|mv z<|fa ip z<|ld t 1 qU z z z<|ld t 0 bv z z z<|iK H fun⟨bF, bG⟩H=>gc fA z z bF bG z<|?_
 refine mm t (vs := [(0, int .u8 (bt a l))]) (cs := [int .u8 (bt a l)]) jM Ad rfl (by decide) rfl rfl (fun cF cG aE => ?_)
 refine iK H fun cH H=>?_
 refine lu (xs := y) (ys := [bt a l]) (Kd.int .u8) aE 4 jM Ad rfl rfl rfl rfl ap an ao (jF aE 0 sd rfl rfl) ⟨[int .u8 (bt a l)], _, rfl, rfl, rfl⟩ rfl (by simp only [List.length_cons, List.length_nil]; omega) (by simp only [List.length_cons, List.length_nil]; omega) (fun bH bJ cI cJ bM bO bP bR bS => ?_)
 refine aj z<|nl<|have bT:=Hp.pick 5 [1, 2, 3, 4] bS z;?_
 cases H
 exact ⟨z, bH, bJ, _, z, bM, ⟨z, z, z, z, z, tv⟩, bT, bP, bR, bO, tv⟩
 refine nK U H fun H=>wf (bN U)<|ws<|?_
 cases H
 exact ⟨z, q, s, _, z, gR, ⟨z, z, z, z, z, tv⟩, t, an, ao, ap, tv⟩
 rintro e r ds cK ⟨rfl, A, B, ab, rfl, bU, b, aF, bV, bW, bX, _⟩
 rw [b.eq]; clear b
 exact bB _ _ _<|ae<|ld aF 0 bv z z z<|mv z<|ba z z<|fX aF 0 bv z z z z z z z fun cL bZ=>nl<|ih _ _ _ H A B _ _ _ (gT am bU) ⟨z, z, z, z, z, tv⟩ bZ bV bW bX z
 refine nK T H fun H=>wf (vN T)<|wx<|?_
 cases H
 exact ⟨z, q, s, _, z, am, ⟨z, tv⟩, t, an, ao, ap, tv⟩
 rintro e r ds cM ⟨rfl, P, R, Z, rfl, b0, b, aG, cN, b1, cO, _⟩
 rw [b.eq]; clear b
 refine bp _ _ _<|sr fun cP b2=>mv z<|wa aG jM Az fA z z b1<|aj z<|nl<|b2 _ _ _<|wr<|have b3:=Hp.pick 4 [2] aG z;?_
 cases H
 exact rt ⟨_, _, z, z, z⟩ (Hp.low b0 b3)
theorem nL {a1 a2 d j} {s : List (ByteArray × Bool)} {f k m g y G L w} (H : du a1 a2 d j s f = some y) (hI : Hp G (nk g string bool s :: L) w) (A : d.length ≤ m) (B : Dat Kd.str G k d) :
    Calls Tryz.prog 131 [agg [int .i64 a1, int .i64 a2, slice k d.length m, string j, Value.map (some g)].toArray, int .i64 f].toArray w fun e w' => Hp G (nk g string bool s :: L) w' ∧ e = .returned (bool y) := by
 refine ac (N := 50) Tryz.func131 z z (Nat.le_of_ble_eq_true z)<|?_
 unfold du at H
 refine sr fun am J=>io hI z z fun t an K=>aj z<|nl<|J _ _ _<|sQ fun ao M=>?_
 refine ie K jD (by kernel_rfl) ?_
 refine di (fun Gq w hGq Iq=>d9 Iq 0 pN z z z z aK) z z<|di (fun Gq w hGq Iq=>mv z aK) z z<|di (fun Gq w hGq Iq=>dl z z aK) z z<|bK H fun n O H=>wk (vs := [agg [int .i64 a1, int .i64 a2, slice k d.length m, string j, Value.map (some g)].toArray, int .i64 (ax (f - 1)), bool true]) (v := string n) Da z z (fun Gq w hGq Iq => ?_) ?_
 refine have P:=Hp.pick 2 [1, 0] Iq z;Calls.mono (jr O P A (Dat.mono hGq B))<|?_
 rintro _ Q ⟨u, rfl⟩
 exact have R:=Hp.pick 2 [1, 0] u z;⟨z, _, hGq, R⟩
 refine di (fun Gq w hGq Iq=>d9 Iq 0 pN z z z z aK) z z<|di (fun Gq w hGq Iq=>mv z aK) z z<|bK H fun o S H=>wk (vs := [agg [int .i64 a1, int .i64 a2, slice k d.length m, string j, Value.map (some g)].toArray, int .i64 f, bool false]) (v := string o) Da z z (fun Gq w hGq Iq => ?_) ?_
 refine have T:=Hp.pick 2 [1, 0] Iq z;Calls.mono (jr S T A (Dat.mono hGq B))<|?_
 rintro _ Q ⟨u, rfl⟩
 exact have U:=Hp.pick 2 [1, 0] u z;⟨z, _, hGq, U⟩
 refine di (fun Gq w hGq Iq=>aj z aK) z z<|di (fun Gq w hGq Iq=>aj z aK) z z<|wz fun ap aq C p=>M _ _ _<|sQ fun ar V=>sr fun au W=>mv z<|aN z z<|mv z<|bK H fun D hC H=>js 8 p [(2, pointer (some ⟨t, 0, none⟩)), (5, string n), (6, string o), (24, bool D)] ?_ fun _ av q=>?_
 refine have H:=hC;dC (f < 2) (fun a=>?_) fun a=>?_
 refine yK a H fun H=>Sk 7 z z (bY a) z<|bR (bY a) z<|nl<|?_
 cases H
 exact je ⟨z, z, z, z, tv⟩ p
 refine nK a H fun H=>fa (hw:=gY z z z (bN a)) ip z<|ld (hw:=gY z z z (bN a)) p 0 qU z z z<|mv (hw:=gY z z z (bN a)) z<|dl (hw:=gY z z z (bN a)) z z<|iK H fun⟨X, Y⟩H=>gc (hw:=gY z z z (bN a)) fA z z X Y z<|bK H fun aw Z H=>cv (hw:=gY z z z (bN a)) Af (kT Z p) z z fun ay aa=>be (hw:=gY z z z (bN a)) z<|b7 (bN a) z<|nl<|?_
 cases H
 exact je ⟨z, z, z, z, tv⟩ aa
 refine mv z<|bK H fun E hC H=>js 7 q [(2, pointer (some ⟨t, 0, none⟩)), (5, string n), (6, string o), (32, bool E)] ?_ fun _ az r=>?_
 refine have H:=hC;dC (D = true) (fun b=>?_) fun b=>?_
 refine yK b H fun H=>Sk 6 z z (vY b) z<|bR (vY b) z<|nl<|?_
 cases H
 exact je ⟨z, z, z, z, tv⟩ q
 refine nK b H fun H=>mv (hw:=gY z z z (vN b)) z<|cX (hw:=gY z z z (vN b)) fA z<|fa (hw:=gY z z z (vN b)) yD z<|fa (hw:=gY z z z (vN b)) t6 z<|ld (hw:=gY z z z (vN b)) q 0 bv z z z<|aN (hw:=gY z z z (vN b)) z z<|b7 (vN b) z<|nl<|?_
 cases H
 exact je ⟨z, z, z, z, tv⟩ q
 refine mv z<|bK H fun F hC H=>js 7 r [(2, pointer (some ⟨t, 0, none⟩)), (5, string n), (6, string o), (40, bool F)] ?_ fun _ aA I=>?_
 refine have H:=hC;dC (E = true) (fun c=>?_) fun c=>?_
 refine yK c H fun H=>Sk 6 z z (vY c) z<|bR (vY c) z<|nl<|?_
 cases H
 exact je ⟨z, z, z, z, tv⟩ r
 refine nK c H fun H=>mv (hw:=gY z z z (vN c)) z<|cX (hw:=gY z z z (vN c)) fA z<|fa (hw:=gY z z z (vN c)) yD z<|fa (hw:=gY z z z (vN c)) tS z<|ld (hw:=gY z z z (vN c)) r 0 bv z z z<|aN (hw:=gY z z z (vN c)) z z<|b7 (vN c) z<|nl<|?_
 cases H
 exact je ⟨z, z, z, z, tv⟩ r
 refine nl<|W _ _ _<|dC (F = true) (fun i=>?_) fun i=>?_
 refine yK i H fun H=>wt (vY i)<|sr fun aB ab=>aj z<|nl<|ab _ _ _<|wr<|have ad:=Hp.pick 2 [1] I z;?_
 cases H
 exact rt ⟨_, _, z, z, z⟩ (Hp.low C ad)
 refine nK i H fun H=>wf (vN i)<|ws<|V _ _ _<|sQ fun aC ae=>?_
 refine kZ jD (by kernel_rfl) ?_
 refine have x:=I.drew;wq (fa yt z aK) z<|wq (ld x 0 CE z z z aK) z<|wq (mv z aK) z<|iK H fun⟨af, ag⟩H=>wq (ug (l := 0) (h := 1) fA z (.inl ⟨z, z⟩) (.inr ⟨_, z, z⟩) (Int.le_refl 0) af ag aK) z<|wq (mv z aK) z<|iK H fun⟨ah, ai⟩H=>wq (ug (l := 0) (h := 1) fA z (.inl ⟨z, z⟩) (.inr ⟨_, z, z⟩) (Int.le_refl 0) ah ai aK) z<|iK H fun ak H=>wq (sm z z ak aK) z<|wq (CN (zv := false) x 1 yu (vh fA) zv4 z z z aK) z<|wq (be z aK) z<|wq (aj z aK) z<|?_
 refine ed<|ae _ _ _<|wr<|have al:=Hp.pick 2 [1] x z;?_
 cases H
 exact rt ⟨_, _, z, z, z⟩ (Hp.low C al)
theorem mC {σ : Type} {St : σ → Gh → List eP → Prop} {yl} {φ : σ → ah → Option (σ × Bool)} {sy : σ} {j a4 f a10} {k : List (ByteArray × Bool)} {d l m b} {ry : σ} {G T w} (H : cF φ sy j a4 f a10 k = some ry) (hI : Hp G (bx d [int .i64 j, int .i64 a4, slice l f.length m, string a10, Value.map (some b)] 147 :: nk b string bool k :: T) w) (aV : f.length ≤ m) (aW : Dat Kd.str G l f) (hy : Yl Tryz.prog φ (encS aS) St yl) (hS : St sy G T) :
    Calls Tryz.prog 129 [func (.yield yl) #[] #[], pointer (some ⟨d, 0, none⟩)].toArray w fun e w' => ∃ (T' : List eP) (G' : Gh), G ≤ G' ∧ Hp G' (bx d [int .i64 j, int .i64 a4, slice l f.length m, string a10, Value.map (some b)] 147 :: nk b string bool k :: T') w' ∧ St ry G' T' ∧ e = .returned (tuple [].toArray) := by
 refine ac (N := 75) Tryz.func129 z z (Nat.le_of_ble_eq_true z)<|?_
 unfold cF at H
 refine sr fun ci aX=>aj z<|nl<|aX _ _ _<|sr fun cj aY=>aj z<|nl<|aY _ _ _<|wb<|bK H fun al hC H=>?_
 refine aq (Q := fun e r ds w => match (generalizing := false) al with | (Sum.inl ar) => e = .ret ∧ ∃ (S : List eP) (U : Gh), ds = [] ∧ G ≤ U ∧ Has [] r ∧ Hp U (bx d [int .i64 j, int .i64 a4, slice l f.length m, string a10, Value.map (some b)] 147 :: nk b string bool k :: S) w ∧ St ar U S ∧ True | (Sum.inr au) => e = .exit 0 ∧ ∃ (V : List eP) (W : Gh), ds = [] ∧ G ≤ W ∧ Has [] r ∧ Hp W (bx d [int .i64 j, int .i64 a4, slice l f.length m, string a10, Value.map (some b)] 147 :: nk b string bool k :: V) w ∧ St au W V ∧ True) ?_ ?_
 refine aB fun I aU=>?_
 refine aT.partial_correctness φ j a4 f a10 k (fun am a av o => ∀ (v : List eP) (u : Gh) (r : Rg) (w : World), G ≤ u → Has [(0, func (.yield yl) #[] #[]), (1, pointer (some ⟨d, 0, none⟩)), (3, bool am), (4, int .i64 a)] r → Hp u (bx d [int .i64 j, int .i64 a4, slice l f.length m, string a10, Value.map (some b)] 147 :: nk b string bool k :: v) w → St av u v → o = al → I r [] w) ?_ false 1 sy _ hC T _ _ _ gR ⟨rfl, rfl, rfl, rfl, tv⟩ hI hS rfl
 intro _ ih am a av o H v u r ck X c B y ho
 rw [ho] at H; clear ho
 rw [c.eq]; clear c
 refine aU _ _ _<|sQ fun cl aZ=>sr fun cm a0=>mv z<|fa ip z<|ld B 0 qU z z z<|cX fA z<|aN z z<|nl<|a0 _ _ _<|dC (a < (a10.size : Int)) (fun C=>?_) fun C=>?_
 refine yK C H fun H=>wt (bY C)<|ws<|aZ _ _ _<|sQ fun cn a1=>bK H fun aw hC H=>?_
 refine aq (Q := fun e r ds w => match (generalizing := false) aw with | (Sum.inl ay) => e = .ret ∧ ∃ (Y : List eP) (Z : Gh), ds = [] ∧ u ≤ Z ∧ Has [] r ∧ Hp Z (bx d [int .i64 j, int .i64 a4, slice l f.length m, string a10, Value.map (some b)] 147 :: nk b string bool k :: Y) w ∧ St ay Z Y ∧ True | (Sum.inr (az, aA)) => e = .normal ∧ ∃ (aa : List eP) (ab : Gh), ds = [] ∧ u ≤ ab ∧ Has [(0, func (.yield yl) #[] #[]), (1, pointer (some ⟨d, 0, none⟩)), (3, bool az), (4, int .i64 a)] r ∧ Hp ab (bx d [int .i64 j, int .i64 a4, slice l f.length m, string a10, Value.map (some b)] 147 :: nk b string bool k :: aa) w ∧ St aA ab aa ∧ True) ?_ ?_
 refine have H:=hC;wb<|sr fun co a2=>mv z<|mv z<|bK H fun A hC H=>js 7 B [(0, func (.yield yl) #[] #[]), (1, pointer (some ⟨d, 0, none⟩)), (4, int .i64 a), (21, bool A)] ?_ fun _ cp n=>?_
 refine have H:=hC;dC (am = true) (fun p=>?_) fun p=>?_
 refine yK p H fun H=>Sk 6 z z (vY p) z<|bR (vY p) z<|nl<|?_
 cases H
 exact je ⟨z, z, z, z, tv⟩ B
 refine nK p H fun H=>fa (hw:=gY z z z (vN p)) ip z<|ld (hw:=gY z z z (vN p)) B 0 qU z z z<|mv (hw:=gY z z z (vN p)) z<|dl (hw:=gY z z z (vN p)) z z<|iK H fun⟨a6, a7⟩H=>gc (hw:=gY z z z (vN p)) fA z z a6 a7 z<|dW (hw:=gY z z z (vN p)) z z<|b7 (vN p) z<|nl<|?_
 cases H
 exact je ⟨z, z, z, z, tv⟩ B
 refine aj z<|nl<|a2 _ _ _<|sr fun cq a8=>aj z<|nl<|a8 _ _ _<|sQ fun cr ad=>sr fun ct a9=>fa ip z<|ld n 0 qU z z z<|mv z<|dl z z<|iK H fun⟨bb, bc⟩H=>?_
 refine gc fA z z bb bc z<|nl<|a9 _ _ _<|wb<|sr fun cu bd=>bA z z<|aj z<|nl<|bd _ _ _<|dC ((bt a10 (ax (a - 1))) = 32) (fun D=>?_) fun D=>?_
 refine yK D H fun H=>wt (bY D)<|ae<|mv z<|mv z<|bK H fun aC hC H=>js 6 n [(0, func (.yield yl) #[] #[]), (1, pointer (some ⟨d, 0, none⟩)), (3, bool A), (4, int .i64 a), (36, bool aC)] ?_ fun _ cw an=>?_
 refine have H:=hC;dC (A = true) (fun s=>?_) fun s=>?_
 refine yK s H fun H=>fa (hw:=gY z z z (vY s)) ip z<|ld (hw:=gY z z z (vY s)) n 0 qU z z z<|mv (hw:=gY z z z (vY s)) z<|iK H fun⟨bf, bg⟩H=>gc (hw:=gY z z z (vY s)) fA z z bf bg z<|dW (hw:=gY z z z (vY s)) z z<|bR (vY s) z<|nl<|?_
 cases H
 exact je ⟨z, z, z, z, z, tv⟩ n
 refine nK s H fun H=>Sk 5 z z (vN s) z<|b7 (vN s) z<|nl<|?_
 cases H
 exact je ⟨z, z, z, z, z, tv⟩ n
 refine aj z<|nl<|ad _ _ _<|sr fun cx bh=>mv z<|mv z<|iJ H fun aD bi hC H=>?_
 refine l7 12 (K := fun e r ds w => e = .normal ∧ ∃ (E : List eP) (af : Gh), ds = [] ∧ u ≤ af ∧ Has [(0, func (.yield yl) #[] #[]), (1, pointer (some ⟨d, 0, none⟩)), (3, bool A), (4, int .i64 a), (74, bool aD)] r ∧ Hp af (bx d [int .i64 j, int .i64 a4, slice l f.length m, string a10, Value.map (some b)] 147 :: nk b string bool k :: E) w ∧ St bi af E ∧ True) ?_ ?_
 refine have H:=hC;dC (aC = true) (fun g=>?_) fun g=>?_
 refine yK g H fun H=>mv (hw:=gY z z z (vY g)) z<|mv (hw:=gY z z z (vY g)) z<|fa (hw:=gY z z z (vY g)) ip z<|ld (hw:=gY z z z (vY g)) an 0 qU z z z<|mv (hw:=gY z z z (vY g)) z<|dl (hw:=gY z z z (vY g)) z z<|iK H fun⟨bj, bk⟩H=>gc (hw:=gY z z z (vY g)) fA z z bj bk z<|bA (hw:=gY z z z (vY g)) z z<|bO (hw:=gY z z z (vY g)) (vs := [(0, int .i64 a), (1, bool (decide ((bt a10 (ax (a - 1))) = 126)))]) (cs := [int .i64 a, bool (decide ((bt a10 (ax (a - 1))) = 126))]) mR uI z z<|iJ H fun cy cz hx122 H=>vP (hw:=gY z z z (vY g)) hy [bx d [int .i64 j, int .i64 a4, slice l f.length m, string a10, Value.map (some b)] 147, nk b string bool k] an y z z ⟨_, z, (iD (x := (⟨a, decide ((bt a10 (ax (a - 1))) = 126)⟩ : ah)))⟩ hx122 fun cA cB bl bm bn bo=>be (hw:=gY z z z (vY g)) z<|?_
 refine bR (vY g) z<|nl<|?_
 cases H
 exact ⟨z, bl, _, z, bm, ⟨z, z, z, z, z, tv⟩, bo, bn, tv⟩
 refine nK g H fun H=>Sk 11 z z (vN g) z<|b7 (vN g) z<|nl<|?_
 cases H
 exact ⟨z, v, _, z, gR, ⟨z, z, z, z, z, tv⟩, an, y, tv⟩
 rintro e r ds cC ⟨rfl, E, af, rfl, aE, c, aF, aG, _⟩
 rw [c.eq]; clear c
 refine nl<|bh _ _ _<|dC (aD = true) (fun F=>?_) fun F=>?_
 refine yK F H fun H=>wt (vY F)<|wr<|?_
 cases H
 exact ⟨z, E, _, z, aE, trivial, aF, aG, tv⟩
 refine nK F H fun H=>wf (vN F)<|ws<|?_
 cases H
 exact ⟨z, E, _, z, aE, ⟨z, z, z, z, tv⟩, aF, aG, tv⟩
 refine nK D H fun H=>wf (bN D)<|sr fun cD bp=>bA z z<|aj z<|nl<|bp _ _ _<|dC ((bt a10 (ax (a - 1))) = 45) (fun J=>?_) fun J=>?_
 refine yK J H fun H=>wt (bY J)<|ae<|mv z<|cc z z<|mv z<|bK H fun aH hC H=>js 7 n [(0, func (.yield yl) #[] #[]), (1, pointer (some ⟨d, 0, none⟩)), (3, bool A), (4, int .i64 a), (48, bool aH)] ?_ fun _ cE ag=>?_
 refine have H:=hC;dC (1 < a) (fun q=>?_) fun q=>?_
 refine yK q H fun H=>fa (hw:=gY z z z (bY q)) ip z<|ld (hw:=gY z z z (bY q)) n 0 qU z z z<|mv (hw:=gY z z z (bY q)) z<|dl (hw:=gY z z z (bY q)) z z<|iK H fun⟨bq, br⟩H=>gc (hw:=gY z z z (bY q)) fA z z bq br z<|bK H fun cG bs H=>cv (hw:=gY z z z (bY q)) CR (nT bs n) z z fun cH bu=>bR (bY q) z<|nl<|?_
 cases H
 exact je ⟨z, z, z, z, z, tv⟩ bu
 refine nK q H fun H=>Sk 6 z z (bN q) z<|b7 (bN q) z<|nl<|?_
 cases H
 exact je ⟨z, z, z, z, z, tv⟩ n
 refine mv z<|bK H fun aI hC H=>js 6 ag [(0, func (.yield yl) #[] #[]), (1, pointer (some ⟨d, 0, none⟩)), (3, bool A), (4, int .i64 a), (55, bool aI)] ?_ fun _ cI ao=>?_
 refine have H:=hC;dC (aH = true) (fun t=>?_) fun t=>?_
 refine yK t H fun H=>fa (hw:=gY z z z (vY t)) ip z<|ld (hw:=gY z z z (vY t)) ag 0 qU z z z<|mv (hw:=gY z z z (vY t)) z<|iK H fun⟨bv, bw⟩H=>gc (hw:=gY z z z (vY t)) fA z z bv bw z<|bK H fun cJ bz H=>cv (hw:=gY z z z (vY t)) CR (nT bz ag) z z fun cK bB=>bR (vY t) z<|nl<|?_
 cases H
 exact je ⟨z, z, z, z, z, tv⟩ bB
 refine nK t H fun H=>Sk 5 z z (vN t) z<|b7 (vN t) z<|nl<|?_
 cases H
 exact je ⟨z, z, z, z, z, tv⟩ ag
 refine aj z<|nl<|ad _ _ _<|sr fun cL bC=>mv z<|mv z<|iJ H fun aJ bD hC H=>?_
 refine l7 12 (K := fun e r ds w => e = .normal ∧ ∃ (L : List eP) (ai : Gh), ds = [] ∧ u ≤ ai ∧ Has [(0, func (.yield yl) #[] #[]), (1, pointer (some ⟨d, 0, none⟩)), (3, bool A), (4, int .i64 a), (74, bool aJ)] r ∧ Hp ai (bx d [int .i64 j, int .i64 a4, slice l f.length m, string a10, Value.map (some b)] 147 :: nk b string bool k :: L) w ∧ St bD ai L ∧ True) ?_ ?_
 refine have H:=hC;dC (aI = true) (fun h=>?_) fun h=>?_
 refine yK h H fun H=>mv (hw:=gY z z z (vY h)) z<|mv (hw:=gY z z z (vY h)) z<|fa (hw:=gY z z z (vY h)) ip z<|ld (hw:=gY z z z (vY h)) ao 0 qU z z z<|mv (hw:=gY z z z (vY h)) z<|dl (hw:=gY z z z (vY h)) z z<|iK H fun⟨bE, bF⟩H=>gc (hw:=gY z z z (vY h)) fA z z bE bF z<|bA (hw:=gY z z z (vY h)) z z<|bO (hw:=gY z z z (vY h)) (vs := [(0, int .i64 a), (1, bool (decide ((bt a10 (ax (a - 1))) = 126)))]) (cs := [int .i64 a, bool (decide ((bt a10 (ax (a - 1))) = 126))]) mR uI z z<|iJ H fun cM cN hx176 H=>vP (hw:=gY z z z (vY h)) hy [bx d [int .i64 j, int .i64 a4, slice l f.length m, string a10, Value.map (some b)] 147, nk b string bool k] ao y z z ⟨_, z, (iD (x := (⟨a, decide ((bt a10 (ax (a - 1))) = 126)⟩ : ah)))⟩ hx176 fun cO cP bG bH bI bJ=>be (hw:=gY z z z (vY h)) z<|?_
 refine bR (vY h) z<|nl<|?_
 cases H
 exact ⟨z, bG, _, z, bH, ⟨z, z, z, z, z, tv⟩, bJ, bI, tv⟩
 refine nK h H fun H=>Sk 11 z z (vN h) z<|b7 (vN h) z<|nl<|?_
 cases H
 exact ⟨z, v, _, z, gR, ⟨z, z, z, z, z, tv⟩, ao, y, tv⟩
 rintro e r ds cQ ⟨rfl, L, ai, rfl, aK, c, aL, aM, _⟩
 rw [c.eq]; clear c
 refine nl<|bC _ _ _<|dC (aJ = true) (fun M=>?_) fun M=>?_
 refine yK M H fun H=>wt (vY M)<|wr<|?_
 cases H
 exact ⟨z, L, _, z, aK, trivial, aL, aM, tv⟩
 refine nK M H fun H=>wf (vN M)<|ws<|?_
 cases H
 exact ⟨z, L, _, z, aK, ⟨z, z, z, z, tv⟩, aL, aM, tv⟩
 refine nK J H fun H=>wf (bN J)<|sr fun cR bL=>bA z z<|aj z<|nl<|bL _ _ _<|dC ((bt a10 (ax (a - 1))) = 126) (fun O=>?_) fun O=>?_
 refine yK O H fun H=>wt (bY O)<|ae<|d9 n 0 pN z z z z<|mv z<|have bM:=Hp.pick 2 [1, 0] n z;bK H fun bP bQ H=>cv ED (nL bQ bM aV (Dat.mono X aW)) z z fun cS ap=>aj z<|nl<|ad _ _ _<|sr fun cT bS=>mv z<|mv z<|?_
 refine iJ H fun aO bT hC H=>?_
 refine l7 12 (K := fun e r ds w => e = .normal ∧ ∃ (P : List eP) (ak : Gh), ds = [] ∧ u ≤ ak ∧ Has [(0, func (.yield yl) #[] #[]), (1, pointer (some ⟨d, 0, none⟩)), (3, bool A), (4, int .i64 a), (74, bool aO)] r ∧ Hp ak (nk b string bool k :: bx d [int .i64 j, int .i64 a4, slice l f.length m, string a10, Value.map (some b)] 147 :: P) w ∧ St bT ak P ∧ True) ?_ ?_
 refine have H:=hC;dC (bP = true) (fun i=>?_) fun i=>?_
 refine yK i H fun H=>mv (hw:=gY z z z (vY i)) z<|mv (hw:=gY z z z (vY i)) z<|fa (hw:=gY z z z (vY i)) ip z<|ld (hw:=gY z z z (vY i)) ap 1 qU z z z<|mv (hw:=gY z z z (vY i)) z<|dl (hw:=gY z z z (vY i)) z z<|iK H fun⟨bU, bV⟩H=>gc (hw:=gY z z z (vY i)) fA z z bU bV z<|bA (hw:=gY z z z (vY i)) z z<|bO (hw:=gY z z z (vY i)) (vs := [(0, int .i64 a), (1, bool (decide ((bt a10 (ax (a - 1))) = 126)))]) (cs := [int .i64 a, bool (decide ((bt a10 (ax (a - 1))) = 126))]) mR uI z z<|iJ H fun cU cV hx209 H=>vP (hw:=gY z z z (vY i)) hy [nk b string bool k, bx d [int .i64 j, int .i64 a4, slice l f.length m, string a10, Value.map (some b)] 147] ap y z z ⟨_, z, (iD (x := (⟨a, decide ((bt a10 (ax (a - 1))) = 126)⟩ : ah)))⟩ hx209 fun cW cY bW bX bZ b0=>be (hw:=gY z z z (vY i)) z<|?_
 refine bR (vY i) z<|nl<|?_
 cases H
 exact ⟨z, bW, _, z, bX, ⟨z, z, z, z, z, tv⟩, b0, bZ, tv⟩
 refine nK i H fun H=>Sk 11 z z (vN i) z<|b7 (vN i) z<|nl<|?_
 cases H
 exact ⟨z, v, _, z, gR, ⟨z, z, z, z, z, tv⟩, ap, y, tv⟩
 rintro e r ds cZ ⟨rfl, P, ak, rfl, aP, c, aQ, aR, _⟩
 rw [c.eq]; clear c
 refine nl<|bS _ _ _<|dC (aO = true) (fun R=>?_) fun R=>?_
 refine yK R H fun H=>wt (vY R)<|wr<|have b1:=Hp.pick 2 [1, 0] aQ z;?_
 cases H
 exact ⟨z, P, _, z, aP, trivial, b1, aR, tv⟩
 refine nK R H fun H=>wf (vN R)<|ws<|have b2:=Hp.pick 2 [1, 0] aQ z;?_
 cases H
 exact ⟨z, P, _, z, aP, ⟨z, z, z, z, tv⟩, b2, aR, tv⟩
 refine nK O H fun H=>wf (bN O)<|ws<|ad _ _ _<|sr fun c0 b3=>mv z<|mv z<|Su 11 z<|b7 z z<|nl<|b3 _ _ _<|wf z<|ws<|?_
 cases H
 exact ⟨z, v, _, z, gR, ⟨z, z, z, z, tv⟩, n, y, tv⟩
 rcases aw with ay | ⟨az, aA⟩
 rintro e r ds c1 ⟨rfl, Y, Z, rfl, b4, c, b5, b6, _⟩
 rw [c.eq]; clear c
 cases H
 exact ⟨z, Y, _, z, (gT X b4), trivial, b5, b6, tv⟩
 rintro e r ds c2 ⟨rfl, aa, ab, rfl, b8, c, b9, ca, _⟩
 rw [c.eq]; clear c
 exact a1 _ _ _<|ae<|mv z<|ba z z<|aj z<|nl<|ih _ _ _ _ H aa _ _ _ (gT X b8) ⟨z, z, z, z, tv⟩ b9 ca z
 refine nK C H fun H=>wf (bN C)<|wx<|?_
 cases H
 exact ⟨z, v, _, z, X, trivial, B, y, tv⟩
 rcases al with ar | au
 rintro e r ds c3 ⟨rfl, S, U, rfl, cb, c, cd, ce, _⟩
 rw [c.eq]; clear c
 cases H
 exact ⟨.inr z, z, _, z, S, _, cb, cd, ce, z⟩
 rintro e r ds c4 ⟨rfl, V, W, rfl, cf, c, cg, ch, _⟩
 rw [c.eq]; clear c
 cases H
 exact ⟨.inl z, z, _, z, V, _, cf, cg, ch, z⟩
theorem sk {a1 a6 d f i B G L w} (H : jW a1 a6 = some (i, B)) (hI : Hp G L w) (ad : a1.Keep.length ≤ f) (af : Dat Kd.str G d a1.Keep) :
    Calls Tryz.prog 66 [agg [int .i64 a1.Before, int .i64 a1.Behind, slice d a1.Keep.length f].toArray, string a6].toArray w fun e w' => ∃ (p : Option Addr) (q : Nat) (G' : Gh), G ≤ G' ∧ Hp G' (tk (slice p i.length q) 2 114 :: L) w' ∧ i.length ≤ q ∧ Dat aS G' p i ∧ Own p q ∧ e = .returned (tuple [slice p i.length q, int .i64 B].toArray) := by
 refine iH (N := 26) Tryz.func66 z z (Nat.le_of_ble_eq_true z)<|?_
 unfold jW at H
 refine sr fun K7 ag=>io hI z z fun r bi C=>aj z<|aj z<|nl<|ag _ _ _<|sr fun bj ai=>d9 C 0 jT z z z z<|mv z<|bK6 H fun D E F I s ak al H=>fU (vs := [agg [int .i64 a1.Before, int .i64 a1.Behind, slice d a1.Keep.length f].toArray, string a6]) bo96 z z (qz al C ad af)<|?_
 rintro _ bk ⟨J, O, g, bl, P, am, an, ao, rfl⟩
 refine ⟨_, rfl, ?_⟩
 refine mv z<|cK z z<|cK z z<|aM am yR fun ap bm aq=>fX aq 0 pN z z z z z z z fun bn Q=>aj z<|nl<|ai _ _ _<|sQ fun bo ar=>sr fun bp au=>mv z<|be z<|nl<|au _ _ _<|?_
 refine dC ((!ak) = true) (fun k=>?_) fun k=>?_
 refine yK k H fun H=>wt (vY k)<|sr fun bq av=>aj z<|aj z<|nl<|av _ _ _<|wr<|?_
 refine ⟨.inr rfl, ([] : List Nat), _, _, rfl, Hp.marks (K := [bx ap [int .i64 D, int .i64 E, slice J F.length O, string I, Value.map (some g)] 147, nk g string bool s, bx r [int .i64 a1.Before, int .i64 a1.Behind, slice d a1.Keep.length f] 28]) Q, fun br aw => ?_⟩
 refine have ax:=Hp.emp aw;have ay:=Hp.pick 4 [0] ax z;?_
 cases H
 exact ⟨_, ⟨_, _, z, z, ⟨_, _, z, z, z⟩⟩, none, 0, _, P, ay, (show ([] : List ah).length ≤ 0 from Nat.le_refl 0), (Dat.nil _ _ _), Own.nil, z⟩
 refine nK k H fun H=>wf (vN k)<|ws<|ar _ _ _<|sr fun bs az=>aM Q ze77 fun t bt R=>nl<|az _ _ _<|sQ fun bu aA=>sr fun bv aB=>d9 R 1 pN z z z z<|have aC:=Hp.pick 4 [2, 0, 1, 3] R z;bK4 H fun S T U V aD H=>fU (vs := [agg [int .i64 D, int .i64 E, slice J F.length O, string I, Value.map (some g)].toArray]) bo97 z z (m6 aD aC an ao)<|?_
 rintro _ bw ⟨W, X, Y, aE, aF, aG, aH, aI, rfl⟩
 refine ⟨_, rfl, ?_⟩
 refine nl<|aB _ _ _<|wb<|have aJ:=Hp.emp aG;have aK:=Hp.pick 6 [1, 2, 3, 5, 0] aJ z;iJ H fun l aL aN H=>mj aK D6 z fun fn tmps gl v bz aO Z=>?_
 have aP : Yl Tryz.prog (j5 (fun (u : (List ah)) (x : ah) => cS u x)) (encS aS) _ gl := ni (pp := [20]) (gdd := v) Z (fun (u : (List ah)) (x : ah) => cS u x) [] (fun (u : (List ah)) (G' : Gh) (K : List eP) => ∃ (a : Option Addr) (b : Nat) (_ : aE ≤ G'), K = bx t [slice a u.length b] 77 :: bx r [int .i64 a1.Before, int .i64 a1.Behind, slice d a1.Keep.length f] 28 :: tk (slice a u.length b) 2 114 :: (List.map uO (v :: ([] : List Nat)) ++ L) ∧ u.length ≤ b ∧ Dat aS G' a u ∧ Own a b ∧ True) aO (fun _ _ _ h => (fun h => r7 h) h) (fun hG' ⟨a, b, aQ, hK', m, n, o, _⟩ => ⟨a, b, gT aQ hG', hK', m, (Dat.mono hG' n), o, tv⟩) (by
 rintro Rd Bs l u' c jo' bA K M bB vs ⟨a, b, aR, rfl, m, n, o, _⟩ ⟨_, rfl, aT⟩ H aU
 obtain ⟨rfl⟩ := dU aT
 replace H : cS l c = some (u', jo') := H
 unfold cS at H
 refine ae<|aM aU mR fun bC bD aV=>fX aV 0 s0 z z z z z z z fun bE aW=>nl<|have aX:=Hp.pick 5 [1, 0, 2, 3, 4] aW z;?_
 refine ⟨rfl, rfl, _, _, gR, aX, fun bF y => ?_⟩
 refine wb<|ae<|ld y 2 xF z z z<|d9 y 1 s0 z z z z<|?_
 refine mm y (vs := [(0, agg [int .i64 c.At, bool c.Hyphen].toArray)]) (cs := [int .i64 c.At, bool c.Hyphen]) p7 mR rfl (by decide) rfl rfl (fun bG bH aa => ?_)
 refine iK H fun bI H=>?_
 refine lu (xs := l) (ys := [c]) aS aa 5 p7 mR rfl rfl rfl rfl o m n (jF aa 0 vU rfl rfl) ⟨[int .i64 c.At, bool c.Hyphen], _, rfl, (iD (x := c)), rfl⟩ rfl (by simp only [List.length_cons, List.length_nil]; omega) (by simp only [List.length_cons, List.length_nil]; omega) (fun aY aZ bJ bK ab a0 a2 a3 a4 => ?_)
 refine fX a4 3 xF z z z z z z z fun bL a5=>nl<|have a7:=Hp.pick 6 [1, 3, 4, 5] a5 z;?_
 cases H
 exact ⟨z, _, _, ab, ⟨aY, aZ, (gT aR ab), z, a2, a3, a0, tv⟩, a7⟩)
 refine have a8:=Hp.sink (A := [bx W [int .i64 S, int .i64 T, slice X U.length Y, string V, Value.map (some g)] 147, nk g string bool s]) (K := [bx t [slice none 0 0] 77, bx r [int .i64 a1.Before, int .i64 a1.Behind, slice d a1.Keep.length f] 28, tk (slice none 0 0) 2 114]) Z;(mC (sy := (([] : List ah), none)) aN a8 aH aI aP ⟨_, z, none, 0, Gh.le_refl _, z, (show ([] : List ah).length ≤ 0 from Nat.le_refl 0), (Dat.nil _ _ _), Own.nil, tv⟩).mono<|?_
 rintro _ bM ⟨bN, a9, bO, ba, ⟨K, rfl, a, b, bb, rfl, m, n, o, _⟩, rfl⟩
 refine have bc:=Hp.front ba 2 z;?_
 rcases aL with _ | j
 refine ⟨_, rfl, LoopState.ready, none, a9, _, (fun h => nomatch h), bc, fun bP ac => ?_⟩
 refine aA _ _ _<|sr fun bQ bd=>ld ac 2 xF z z z<|aj z<|aj z<|nl<|bd _ _ _<|wr<|?_
 refine ⟨.inr rfl, (v :: ([] : List Nat)), _, _, rfl, Hp.marks (K := [bx W [int .i64 S, int .i64 T, slice X U.length Y, string V, Value.map (some g)] 147, nk g string bool s, bx t [slice a l.length b] 77, bx r [int .i64 a1.Before, int .i64 a1.Behind, slice d a1.Keep.length f] 28, tk (slice a l.length b) 2 114]) ac, fun bR bf => ?_⟩
 refine have bg:=Hp.pick 5 [4] bf z;?_
 cases H
 exact ⟨_, ⟨_, _, z, z, ⟨_, _, z, z, z⟩⟩, a, b, _, (gT (gT P aF) bb), bg, m, n, o, z⟩
 cases H
theorem py {a1 a G L w} (H : iX a1 = some a) (hI : Hp G L w) :
    Calls Tryz.prog 68 [agg [int .i64 a1.At, bool a1.Hyphen].toArray].toArray w fun e w' => Hp G L w' ∧ e = .returned (bool a) := by
 refine ac (N := 5) Tryz.func68 z z (Nat.le_of_ble_eq_true z)<|?_
 unfold iX at H
 refine sr fun g c=>io hI z z fun h i b=>aj z<|nl<|c _ _ _<|sr fun j d=>fa rE z<|ld b 0 zU z z z<|aj z<|nl<|d _ _ _<|wr<|have f:=Hp.pick 1 [] b z;?_
 cases H
 exact rt ⟨_, _, z, z, z⟩ f
theorem ms {a1 a10 f g h i u v G L w} (H : fx a1 a10 = some (u, v)) (hI : Hp G L w) (x : a1.Glyphs.length ≤ g) (y : Dat au G f a1.Glyphs) (A : a1.Kerns.length ≤ i) (B : Dat ay G h a1.Kerns) :
    Calls Tryz.prog 69 [agg [slice f a1.Glyphs.length g, slice h a1.Kerns.length i].toArray, string a10].toArray w fun e w' => Hp G L w' ∧ e = .returned (tuple [bool u, int .i64 v].toArray) := by
 refine ac (N := 36) Tryz.func69 z z (Nat.le_of_ble_eq_true z)<|?_
 unfold fx at H
 refine sr fun aC S=>io hI z z fun d aD C=>aj z<|aj z<|nl<|S _ _ _<|sQ fun aE T=>sr fun aF U=>d9 C 0 fw z z z z<|bK H fun V W H=>cv Dy (mL W C x y A B) z z fun aG n=>be z<|mv z<|bK H fun D hC H=>?_
 refine js 4 n [(1, string a10), (2, pointer (some ⟨d, 0, none⟩)), (17, bool D)] ?_ fun _ aH E=>?_
 refine have H:=hC;dC ((!V) = true) (fun a=>?_) fun a=>?_
 refine yK a H fun H=>Sk 3 z z (vY a) z<|bR (vY a) z<|nl<|?_
 cases H
 exact je ⟨z, z, z, tv⟩ n
 refine nK a H fun H=>mv (hw:=gY z z z (vN a)) z<|bK H fun aI X H=>cv (hw:=gY z z z (vN a)) zP (ij X n) z z fun aJ Y=>be (hw:=gY z z z (vN a)) z<|b7 (vN a) z<|nl<|?_
 cases H
 exact je ⟨z, z, z, tv⟩ Y
 refine nl<|U _ _ _<|dC (D = true) (fun j=>?_) fun j=>?_
 refine yK j H fun H=>wt (vY j)<|sr fun aK Z=>aj z<|aj z<|nl<|Z _ _ _<|wr<|have aa:=Hp.pick 1 [] E z;?_
 cases H
 exact rt ⟨_, _, z, z, ⟨_, _, z, z, z⟩⟩ aa
 refine nK j H fun H=>wf (vN j)<|ws<|T _ _ _<|sQ fun aL ab=>sr fun aN ad=>mv z<|yP E fA z fun k aO ae=>nl<|ad _ _ _<|wb<|bK H fun p hC H=>?_
 refine aq (Q := fun e r ds w => match (generalizing := false) p with | (Sum.inl F) => e = .ret ∧ ds = [] ∧ Has [(4, bool false), (5, int .i64 0)] r ∧ Hp G (ob k (Obj.stringIter a10 F) :: bx d [slice f a1.Glyphs.length g, slice h a1.Kerns.length i] 25 :: L) w ∧ True | (Sum.inr J) => e = .exit 0 ∧ ds = [] ∧ Has [] r ∧ Hp G (ob k (Obj.stringIter a10 J) :: bx d [slice f a1.Glyphs.length g, slice h a1.Kerns.length i] 25 :: L) w ∧ True) ?_ ?_
 refine aB fun I R=>?_
 refine eS.partial_correctness a1 a10 (fun q o => ∀ (r : Rg) (w : World), Has [(2, pointer (some ⟨d, 0, none⟩)), (19, pointer (some ⟨k, 0, none⟩))] r → Hp G (ob k (Obj.stringIter a10 q) :: bx d [slice f a1.Glyphs.length g, slice h a1.Kerns.length i] 25 :: L) w → o = p → I r [] w) ?_ 0 _ hC _ _ ⟨rfl, rfl, tv⟩ ae rfl
 intro _ ih q o H r aP b s ho
 rw [ho] at H; clear ho
 rw [b.eq]; clear b
 refine R _ _ _<|sr fun aQ K=>dC (q < a10.size) (fun l=>?_) fun l=>?_
 refine yK l H fun H=>yn s 0 z z l fun aR M=>cK z z<|nl<|K _ _ _<|sQ fun aS af=>wt z<|ws<|af _ _ _<|wb<|sr fun aT ag=>cK z z<|aj z<|nl<|?_
 refine ag _ _ _<|sr fun aU ah=>d9 M 1 fw z z z z<|mv z<|rA AW Az z<|iJ H fun aV ai ak H=>cv BW (kG ak M x y A B) z z fun aW al=>mv z<|cK z z<|cK z z<|aM al nm fun aX aY am=>fX am 0 l0 z z z z z z z fun aZ t=>aj z<|nl<|?_
 refine ah _ _ _<|sr fun a0 an=>mv z<|be z<|mv z<|bK H fun O hC H=>js 3 t [(2, pointer (some ⟨d, 0, none⟩)), (19, pointer (some ⟨k, 0, none⟩)), (35, bool O)] ?_ fun _ a2 P=>?_
 refine have H:=hC;dC ((!ai) = true) (fun c=>?_) fun c=>?_
 refine yK c H fun H=>mv (hw:=gY z z z (vY c)) z<|dW (hw:=gY z z z (vY c)) z z<|bR (vY c) z<|nl<|?_
 cases H
 exact je ⟨z, z, z, tv⟩ t
 refine nK c H fun H=>Sk 2 z z (vN c) z<|b7 (vN c) z<|nl<|?_
 cases H
 exact je ⟨z, z, z, tv⟩ t
 refine nl<|an _ _ _<|dC (O = true) (fun m=>?_) fun m=>?_
 refine yK m H fun H=>wt (vY m)<|sr fun a3 ao=>aj z<|aj z<|nl<|ao _ _ _<|wr<|have ap:=Hp.pick 3 [1, 2] P z;?_
 cases H
 exact ⟨z, z, ⟨z, z, tv⟩, ap, tv⟩
 exact nK m H fun H=>wf (vN m)<|ws<|have ar:=Hp.pick 3 [1, 2] P z;ih _ _ H _ _ ⟨z, z, tv⟩ ar z
 refine nK l H fun H=>yB s 0 z z l<|cK z z<|nl<|K _ _ _<|sQ fun a4 a5=>wf z<|wx<|?_
 cases H
 exact ⟨z, z, trivial, s, tv⟩
 rcases p with F | J
 rintro e r ds a6 ⟨rfl, rfl, b, av, _⟩
 rw [b.eq]; clear b
 refine have aw:=Hp.pick 2 [] av z;?_
 cases H
 exact rt ⟨_, _, z, z, ⟨_, _, z, z, z⟩⟩ aw
 rintro e r ds a7 ⟨rfl, rfl, b, ax, _⟩
 rw [b.eq]; clear b
 refine ab _ _ _<|sr fun a8 az=>aj z<|aj z<|nl<|az _ _ _<|wr<|have aA:=Hp.pick 2 [] ax z;?_
 cases H
 exact rt ⟨_, _, z, z, ⟨_, _, z, z, z⟩⟩ aA
theorem s3 {a1 a G L w} (H : kU a1 = some a) (hI : Hp G L w) :
    Calls Tryz.prog 114 [string a1].toArray w fun e w' => ∃ (b : Nat), Hp G (bx b [string a] 9 :: L) w' ∧ e = .returned (func (.func 144) [].toArray [pointer (some ⟨b, 0, none⟩)].toArray) := by
 refine ac (N := 4) Tryz.func114 z z (Nat.le_of_ble_eq_true z)<|?_
 unfold kU at H
 refine sr fun h d=>io hI z z fun c i f=>aj z<|nl<|d _ _ _<|sr fun j g=>qG (vs := []) (us := [pointer (some ⟨c, 0, none⟩)]) z z<|aj z<|nl<|g _ _ _<|wr<|?_
 cases H
 exact ⟨.inr z, z, _, ⟨_, _, z, z, z⟩, c, f, z⟩
theorem pL {σ : Type} {St : σ → Gh → List eP → Prop} {yl} {φ : σ → aO → Option (σ × Bool)} {sy : σ} {a d} {ry : σ} {G T w} (H : ff φ sy a = some ry) (hI : Hp G (bx d [string a] 9 :: T) w) (hy : Yl Tryz.prog φ (encS nQ) St yl) (hS : St sy G T) :
    Calls Tryz.prog 144 [func (.yield yl) #[] #[], pointer (some ⟨d, 0, none⟩)].toArray w fun e w' => ∃ (T' : List eP) (G' : Gh), G ≤ G' ∧ Hp G' (bx d [string a] 9 :: T') w' ∧ St ry G' T' ∧ e = .returned (tuple [].toArray) := by
 refine ac (N := 22) Tryz.func144 z z (Nat.le_of_ble_eq_true z)<|?_
 unfold ff at H
 refine sr fun K4 P=>aj z<|nl<|P _ _ _<|sr fun K6 R=>ld hI 0 qU z z z<|yP hI fA z fun f ao S=>nl<|R _ _ _<|wb<|bK H fun t hC H=>?_
 refine aq (Q := fun e r ds w => match (generalizing := false) t with | (Sum.inl (y, A)) => e = .ret ∧ ∃ (l : List eP) (m : Gh), ds = [] ∧ G ≤ m ∧ Has [] r ∧ Hp m (ob f (Obj.stringIter a y) :: bx d [string a] 9 :: l) w ∧ St A m l ∧ True | (Sum.inr (B, C)) => e = .exit 0 ∧ ∃ (n : List eP) (p : Gh), ds = [] ∧ G ≤ p ∧ Has [] r ∧ Hp p (ob f (Obj.stringIter a B) :: bx d [string a] 9 :: n) w ∧ St C p n ∧ True) ?_ ?_
 refine aB fun I O=>?_
 refine bp.partial_correctness φ a (fun g b D o => ∀ (h : List eP) (q : Gh) (r : Rg) (w : World), G ≤ q → Has [(0, func (.yield yl) #[] #[]), (3, int .u8 g), (7, pointer (some ⟨f, 0, none⟩))] r → Hp q (ob f (Obj.stringIter a b) :: bx d [string a] 9 :: h) w → St D q h → o = t → I r [] w) ?_ 0 0 sy _ hC T _ _ _ gR ⟨rfl, rfl, rfl, tv⟩ S hS rfl
 intro _ ih g b D o H h q r ap s c u v ho
 rw [ho] at H; clear ho
 rw [c.eq]; clear c
 refine O _ _ _<|sr fun ar E=>dC (b < a.size) (fun i=>?_) fun i=>?_
 refine yK i H fun H=>yn u 0 z z i fun au F=>cK z z<|nl<|E _ _ _<|sQ fun av U=>wt z<|ws<|U _ _ _<|wb<|sr fun aw V=>cK z z<|aj z<|nl<|?_
 refine V _ _ _<|sQ fun ax W=>sr fun ay X=>mv z<|bA z z<|nl<|X _ _ _<|dC (((Utf8.decode a b).1 : Int) = 126) (fun j=>?_) fun j=>?_
 exact yK j H fun H=>wt (bY j)<|wx<|ih _ _ _ _ H h _ _ _ s ⟨z, z, z, tv⟩ F v z
 refine nK j H fun H=>wf (bN j)<|ws<|W _ _ _<|sQ fun az Y=>sr fun aA Z=>mv z<|mv z<|mv z<|rA AW Az z<|bO (vs := [(0, int .u8 g), (1, int .u8 (uG (((Utf8.decode a b).1 : Int))))]) (cs := [int .u8 g, int .u8 (uG (((Utf8.decode a b).1 : Int)))]) AA CZ z z<|iJ H fun aC aa hx72 H=>vP hy [ob f (Obj.stringIter a (b + (Utf8.decode a b).2)), bx d [string a] 9] F v z z ⟨_, z, (vw (x := (⟨g, uG (((Utf8.decode a b).1 : Int))⟩ : aO)))⟩ hx72 fun aD aE J K L M=>be z<|?_
 refine nl<|Z _ _ _<|dC ((!aa) = true) (fun k=>?_) fun k=>?_
 refine yK k H fun H=>wt (vY k)<|wr<|?_
 cases H
 exact ⟨z, J, _, z, (gT s K), trivial, M, L, tv⟩
 exact nK k H fun H=>wf (vN k)<|ws<|Y _ _ _<|ae<|mv z<|rA AW Az z<|aj z<|nl<|ih _ _ _ _ H J _ _ _ (gT s K) ⟨z, z, z, tv⟩ M L z
 refine nK i H fun H=>yB u 0 z z i<|cK z z<|nl<|E _ _ _<|sQ fun aF aG=>wf z<|wx<|?_
 cases H
 exact ⟨z, h, _, z, s, trivial, u, v, tv⟩
 rcases t with ⟨y, A⟩ | ⟨B, C⟩
 rintro e r ds aH ⟨rfl, l, m, rfl, ab, c, ad, af, _⟩
 rw [c.eq]; clear c
 refine have ag:=Hp.pick 2 [1] ad z;?_
 cases H
 exact ⟨.inr z, z, _, z, l, _, ab, ag, af, z⟩
 rintro e r ds aI ⟨rfl, n, p, rfl, ah, c, ai, ak, _⟩
 rw [c.eq]; clear c
 refine have al:=Hp.pick 2 [1] ai z;?_
 cases H
 exact ⟨.inl z, z, _, z, n, _, ah, al, ak, z⟩
theorem jg {a1 a6 i k s t G L w} (H : bh a1 a6 = some (s, t)) (hI : Hp G L w) (au : a1.length ≤ k) (u : Dat ay G i a1) :
    Calls Tryz.prog 145 [slice i a1.length k, agg [int .u8 a6.left, int .u8 a6.right].toArray, func (.func 76) [].toArray [].toArray].toArray w fun e w' => Hp G L w' ∧ e = .returned (tuple [int .i64 s, bool t].toArray) := by
 refine ac (N := 49) Tryz.func145 z z (Nat.le_of_ble_eq_true z)<|?_
 unfold bh at H
 refine sr fun K7 M=>io hI z z fun l aw O=>aj z<|aj z<|nl<|M _ _ _<|sr fun az P=>mv z<|q_len x6 z<|aj z<|nl<|P _ _ _<|sr fun aA R=>mv z<|?_
 refine aj z<|aj z<|nl<|R _ _ _<|sQ fun aC S=>wb<|bK H fun b hC H=>aq (Q := fun e r ds w => e = .exit 0 ∧ ds = [] ∧ Has [(0, slice i a1.length k), (2, func (.func 76) [].toArray [].toArray), (4, pointer (some ⟨l, 0, none⟩)), (8, int .i64 (a1.length : Int)), (9, int .i64 b)] r ∧ Hp G (bx l [int .u8 a6.left, int .u8 a6.right] 127 :: L) w ∧ True) ?_ ?_
 refine aB fun I K=>?_
 refine aD.partial_correctness a1 a6 (fun c d o => ∀ (r : Rg) (w : World), Has [(0, slice i a1.length k), (2, func (.func 76) [].toArray [].toArray), (4, pointer (some ⟨l, 0, none⟩)), (8, int .i64 (a1.length : Int)), (9, int .i64 c), (10, int .i64 d)] r → Hp G (bx l [int .u8 a6.left, int .u8 a6.right] 127 :: L) w → o = b → I r [] w) ?_ 0 (a1.length : Int) _ hC _ _ ⟨rfl, rfl, rfl, rfl, rfl, rfl, tv⟩ O rfl
 intro _ ih c d o H r aE f x ho
 rw [ho] at H; clear ho
 rw [f.eq]; clear f
 refine K _ _ _<|sQ fun aG T=>sr fun aH U=>mv z<|mv z<|aN z z<|nl<|U _ _ _<|dC (c < d) (fun g=>?_) fun g=>?_
 refine yK g H fun H=>wt (bY g)<|ws<|T _ _ _<|wb<|sr fun aI V=>mv z<|mv z<|ba z z<|rA ik3 Cw z<|Bj (m := 1) z z z<|rA Cw ik3 z<|aj z<|nl<|?_
 refine V _ _ _<|sQ fun aJ W=>?_
 refine ie x jD (by kernel_rfl) ?_
 refine di (fun Gq w hGq Iq=>mv z aK) z z<|di (fun Gq w hGq Iq=>mv z aK) z z<|di (fun Gq w hGq Iq=>mv z aK) z z<|iK H fun⟨y, A⟩H=>?_
 obtain ⟨aL, aM, X, Y, aO, Z⟩ := Dat.get u am (ax (Int.fdiv (IntKind.wrap .u64 (ax (c + d))) (2 ^ 1))) y A
 obtain ⟨rfl⟩ := dB Y
 refine di (fun Gq w hGq Iq=>bP s8 z X z y A aK) z z<|di (fun Gq w hGq Iq=>ki Iq nS z (cs := [int .u8 ((a1.getD (Int.toNat (ax (Int.fdiv (IntKind.wrap .u64 (ax (c + d))) (2 ^ 1)))) am).Left), int .u8 ((a1.getD (Int.toNat (ax (Int.fdiv (IntKind.wrap .u64 (ax (c + d))) (2 ^ 1)))) am).Right), int .i64 ((a1.getD (Int.toNat (ax (Int.fdiv (IntKind.wrap .u64 (ax (c + d))) (2 ^ 1)))) am).By)]) z (fun j v hv => hGq.cel _ _ (Z j v hv)) aK) z z<|di (fun Gq w hGq Iq=>d9 Iq 0 wD z z z z aK) z z<|bK H fun B aa H=>?_
 refine wk (vs := [agg [int .u8 ((a1.getD (Int.toNat (ax (Int.fdiv (IntKind.wrap .u64 (ax (c + d))) (2 ^ 1)))) am).Left), int .u8 ((a1.getD (Int.toNat (ax (Int.fdiv (IntKind.wrap .u64 (ax (c + d))) (2 ^ 1)))) am).Right), int .i64 ((a1.getD (Int.toNat (ax (Int.fdiv (IntKind.wrap .u64 (ax (c + d))) (2 ^ 1)))) am).By)].toArray, agg [int .u8 a6.left, int .u8 a6.right].toArray]) (v := int .i64 B) Dh z z (fun Gq w hGq Iq => ?_) ?_
 refine Calls.mono (mJ (a1 := (a1.getD (Int.toNat (ax (Int.fdiv (IntKind.wrap .u64 (ax (c + d))) (2 ^ 1)))) am)) aa Iq)<|?_
 rintro _ w2 ⟨n, rfl⟩
 exact ⟨z, _, hGq, n⟩
 refine di (fun Gq w hGq Iq=>aN z z aK) z z<|wz fun aP aQ C D=>W _ _ _<|dC (B < 0) (fun h=>?_) fun h=>?_
 exact yK h H fun H=>wt (bY h)<|ae<|mv z<|ba z z<|aj z<|nl<|ih _ _ _ H _ _ ⟨z, z, z, z, z, z, tv⟩ (Hp.low C D) z
 exact nK h H fun H=>wf (bN h)<|ae<|mv z<|aj z<|nl<|ih _ _ _ H _ _ ⟨z, z, z, z, z, z, tv⟩ (Hp.low C D) z
 refine nK g H fun H=>wf (bN g)<|wx<|?_
 cases H
 exact ⟨z, z, ⟨z, z, z, z, z, tv⟩, x, tv⟩
 rintro e r ds aR ⟨rfl, rfl, f, E, _⟩
 rw [f.eq]; clear f
 refine S _ _ _<|sQ fun aS ad=>bK H fun af hC H=>jc .normal E [(6, int .i64 b), (7, bool af)] ?_ fun _ aT ag=>?_
 refine have H:=hC;?_
 refine ie E jD (by kernel_rfl) ?_
 refine di (fun Gq w hGq Iq=>mv z aK) z z<|di (fun Gq w hGq Iq=>mv z aK) z z<|di (fun Gq w hGq Iq=>mv z aK) z z<|di (fun Gq w hGq Iq=>aN z z aK) z z<|di (fun Gq w hGq Iq=>mv z aK) z z<|dC (b < (a1.length : Int)) (fun a=>?_) fun a=>?_
 refine yK a H fun H=>di (fun Gq w hGq Iq=>mv (hw:=gY z z z (bY a)) z aK) z z<|di (fun Gq w hGq Iq=>mv (hw:=gY z z z (bY a)) z aK) z z<|di (fun Gq w hGq Iq=>mv (hw:=gY z z z (bY a)) z aK) z z<|iK H fun⟨F, J⟩H=>?_
 obtain ⟨aU, aV, ah, ai, aW, ak⟩ := Dat.get u am (b) F J
 obtain ⟨rfl⟩ := dB ai
 refine di (fun Gq w hGq Iq=>bP (hw:=gY z z z (bY a)) s8 z ah z F J aK) z z<|di (fun Gq w hGq Iq=>ki (hw:=gY z z z (bY a)) Iq nS z (cs := [int .u8 ((a1.getD (Int.toNat b) am).Left), int .u8 ((a1.getD (Int.toNat b) am).Right), int .i64 ((a1.getD (Int.toNat b) am).By)]) z (fun j v hv => hGq.cel _ _ (ak j v hv)) aK) z z<|di (fun Gq w hGq Iq=>d9 (hw:=gY z z z (bY a)) Iq 0 wD z z z z aK) z z<|bK H fun al an H=>?_
 refine wk (vs := [agg [int .u8 ((a1.getD (Int.toNat b) am).Left), int .u8 ((a1.getD (Int.toNat b) am).Right), int .i64 ((a1.getD (Int.toNat b) am).By)].toArray, agg [int .u8 a6.left, int .u8 a6.right].toArray]) (v := int .i64 al) Dh z z (fun Gq w hGq Iq => ?_) ?_ (hw := gY z z z (lG a))
 refine Calls.mono (mJ (a1 := (a1.getD (Int.toNat b) am)) an Iq)<|?_
 rintro _ w2 ⟨n, rfl⟩
 exact ⟨z, _, hGq, n⟩
 refine di (fun Gq w hGq Iq=>bA (hw:=gY z z z (bY a)) z z aK) z z<|di (fun Gq w hGq Iq=>bR (bY a) z aK) z z<|di (fun Gq w hGq Iq=>aj z aK) z z<|di (fun Gq w hGq Iq=>aj z aK) z z<|wz fun ao ap p q=>?_
 cases H
 exact je ⟨z, z, tv⟩ (Hp.low p q)
 refine nK a H fun H=>wp (aF z z z (bN a) z)<|wp (aF z z z (bN a) z)<|wp (aF z z z (bN a) z)<|wp (aF z z z (bN a) z)<|wp (aF z z z (bN a) z)<|wp (aF z z z (bN a) z)<|wp (aF z z z (bN a) z)<|wp (aF z z z (bN a) z)<|di (fun Gq w hGq Iq=>b7 (bN a) z aK) z z<|di (fun Gq w hGq Iq=>aj z aK) z z<|di (fun Gq w hGq Iq=>aj z aK) z z<|wz fun ao ap p q=>?_
 cases H
 exact je ⟨z, z, tv⟩ (Hp.low p q)
 refine ad _ _ _<|wr<|have ar:=Hp.pick 1 [] ag z;?_
 cases H
 exact rt ⟨_, _, z, z, ⟨_, _, z, z, z⟩⟩ ar
theorem mZ {a1 a6 f h c i G L w} (H : bU a1 a6 = some (c, i)) (hI : Hp G L w) (t : a1.length ≤ h) (k : Dat ay G f a1) :
    Calls Tryz.prog 115 [slice f a1.length h, agg [int .u8 a6.left, int .u8 a6.right].toArray, func (.func 76) [].toArray [].toArray].toArray w fun e w' => Hp G L w' ∧ e = .returned (tuple [agg [int .u8 c.Left, int .u8 c.Right, int .i64 c.By].toArray, bool i].toArray) := by
 refine ac (N := 25) Tryz.func115 z z (Nat.le_of_ble_eq_true z)<|?_
 unfold bU at H
 refine sr fun T u=>io hI z z fun U V x=>aM x wi fun l W m=>aj z<|nl<|u _ _ _<|sr fun X y=>mv z<|d9 m 1 wD z z z z<|mv z<|iJ H fun a A B H=>cv Eh (jg B m t k) z z fun Y d=>mv z<|cK z z<|?_
 refine cK z z<|aj z<|aj z<|nl<|y _ _ _<|sQ fun Z C=>sr fun aa D=>mv z<|be z<|nl<|D _ _ _<|dC ((!A) = true) (fun b=>?_) fun b=>?_
 refine yK b H fun H=>wt (vY b)<|sr fun ab E=>aM d wi fun ad ae n=>nl<|E _ _ _<|sr fun af F=>d9 n 0 nS z z z z<|fX n 1 nS z z z z z z z fun ag p=>aj z<|nl<|F _ _ _<|wr<|have I:=bW (P := Tryz.prog) p 1 (cs := [int .u8 0, int .u8 0, int .i64 0]) (g := l) (o := 0) nS z z z;?_
 refine have J:=Hp.pick 3 [] p z;?_
 cases H
 exact rt ⟨_, _, _, z, z, I, ⟨_, _, z, z, z⟩⟩ J
 refine nK b H fun H=>wf (vN b)<|ws<|C _ _ _<|sr fun ah K=>mv z<|mv z<|iK H fun⟨q, r⟩H=>?_
 obtain ⟨ai, ak, M, O, al, Q⟩ := Dat.get k am (a) q r
 obtain ⟨rfl⟩ := dB O
 refine bP s8 z M z q r<|ki d nS z (cs := [int .u8 ((a1.getD (Int.toNat a) am).Left), int .u8 ((a1.getD (Int.toNat a) am).Right), int .i64 ((a1.getD (Int.toNat a) am).By)]) z (fun j v hv => gR.cel _ _ (Q j v hv))<|fX d 0 nS z z z z z z z fun an s=>aj z<|nl<|K _ _ _<|wr<|have R:=bW (P := Tryz.prog) s 0 (cs := [int .u8 ((a1.getD (Int.toNat a) am).Left), int .u8 ((a1.getD (Int.toNat a) am).Right), int .i64 ((a1.getD (Int.toNat a) am).By)]) (g := l) (o := 0) nS z z z;have S:=Hp.pick 2 [] s z;?_
 cases H
 exact rt ⟨_, _, _, z, z, R, ⟨_, _, z, z, z⟩⟩ S
theorem ur {a1 a10 a b c d v y G L w} (H : jn a1 a10 = some (v, y)) (hI : Hp G L w) (B : a1.Glyphs.length ≤ b) (C : Dat au G a a1.Glyphs) (m : a1.Kerns.length ≤ d) (n : Dat ay G c a1.Kerns) :
    Calls Tryz.prog 80 [agg [slice a a1.Glyphs.length b, slice c a1.Kerns.length d].toArray, string a10].toArray w fun e w' => Hp G L w' ∧ e = .returned (tuple [int .i64 v, int .i64 y].toArray) := by
 refine iH (N := 52) Tryz.func80 z z (Nat.le_of_ble_eq_true z)<|?_
 unfold jn at H
 refine sr fun aU O=>io hI z z fun f aV D=>aj z<|aj z<|nl<|O _ _ _<|sr fun aW P=>d9 D 0 fw z z z z<|mv z<|iJ H fun Q R S H=>cv B8 (ms S D B C m n) z z fun aX o=>mv z<|cK z z<|cK z z<|?_
 refine aj z<|aj z<|nl<|P _ _ _<|sQ fun aY T=>wb<|sr fun aZ U=>mv z<|dW z z<|aj z<|nl<|U _ _ _<|dC (¬ R = 0) (fun g=>?_) fun g=>?_
 refine yK g H fun H=>wt (bY g)<|sr fun a0 V=>mv z<|aj z<|aj z<|nl<|V _ _ _<|wr<|?_
 refine ⟨.inr rfl, ([] : List Nat), _, _, rfl, Hp.marks (K := [bx f [slice a a1.Glyphs.length b, slice c a1.Kerns.length d] 25]) o, fun a2 W => ?_⟩
 refine have X:=Hp.pick 1 [] W z;?_
 cases H
 exact ⟨_, ⟨_, _, z, z, ⟨_, _, z, z, z⟩⟩, X, z⟩
 refine nK g H fun H=>wf (bN g)<|sr fun a3 Y=>mv z<|be z<|aj z<|nl<|Y _ _ _<|dC ((!Q) = true) (fun i=>?_) fun i=>?_
 refine yK i H fun H=>wt (vY i)<|sr fun a4 Z=>aj z<|aj z<|nl<|Z _ _ _<|wr<|?_
 refine ⟨.inr rfl, ([] : List Nat), _, _, rfl, Hp.marks (K := [bx f [slice a a1.Glyphs.length b, slice c a1.Kerns.length d] 25]) o, fun a5 aa => ?_⟩
 refine have ab:=Hp.pick 1 [] aa z;?_
 cases H
 exact ⟨_, ⟨_, _, z, z, ⟨_, _, z, z, z⟩⟩, ab, z⟩
 refine nK i H fun H=>wf (vN i)<|ws<|T _ _ _<|sr fun a6 ac=>aM o vI fun p a7 ad=>fX ad 0 bv z z z z z z z fun a8 af=>nl<|ac _ _ _<|sQ fun a9 ag=>sr fun bb ah=>mv z<|bK H fun E ai H=>fU (vs := [string a10]) Ey z z (s3 ai af)<|?_
 rintro _ bc ⟨F, ak, rfl⟩
 refine ⟨_, rfl, ?_⟩
 refine nl<|ah _ _ _<|wb<|iJ H fun q al am H=>mj ak EC z fun fn tmps gl r bd an I=>?_
 have ao : Yl Tryz.prog (j5 (fun (u : Int) (x : aO) => cV a1 u x)) (encS nQ) _ gl := ni (pp := [29]) (gdd := r) I (fun (u : Int) (x : aO) => cV a1 u x) [] (fun (u : Int) (G' : Gh) (K : List eP) => ∃ (_ : G ≤ G'), K = bx p [int .i64 u] 3 :: bx f [slice a a1.Glyphs.length b, slice c a1.Kerns.length d] 25 :: (List.map uO (r :: ([] : List Nat)) ++ L) ∧ True) an (fun _ _ _ h => (fun h => r7 h) h) (fun hG' ⟨ap, hK', _⟩ => ⟨gT ap hG', hK', tv⟩) (by
 rintro Rd Bs q u' aq jo' bf K M bg vs ⟨k, rfl, _⟩ ⟨_, rfl, ar⟩ H av
 obtain ⟨rfl⟩ := tR ar
 replace H : cV a1 q aq = some (u', jo') := H
 unfold cV at H
 refine ae<|aM av AA fun bh bi aw=>fX aw 0 wD z z z z z z z fun bj ax=>nl<|have az:=Hp.pick 4 [1, 0, 2, 3] ax z;?_
 refine ⟨rfl, rfl, _, _, gR, az, fun bk s => ?_⟩
 refine wb<|sr fun bl aA=>d9 s 3 fw z z z z<|fa yN z<|ld s 1 p6 z z z<|iJ H fun bm bn aB H=>cv BW (kG aB s B (Dat.mono k C) m (Dat.mono k n)) z z fun bo aC=>mv z<|cK z z<|cK z z<|aM aC nm fun bp bq aD=>fX aD 0 l0 z z z z z z z fun br t=>aj z<|nl<|?_
 refine aA _ _ _<|sr fun bs aE=>fa kX z<|ld t 4 qV z z z<|d9 t 2 wD z z z z<|iJ H fun bt bu aF H=>cv Ee (mZ aF t m (Dat.mono k n)) z z fun bw aG=>mv z<|cK z z<|cK z z<|aM aG wi fun bz bA aH=>fX aH 0 nS z z z z z z z fun bB l=>aj z<|nl<|?_
 refine aE _ _ _<|ae<|ld l 4 bv z z z<|fa oa z<|ld l 1 bv z z z<|fa o2 z<|ld l 0 bv z z z<|ba z z<|ba z z<|fX l 4 bv z z z z z z z fun bC aI=>nl<|have aJ:=Hp.pick 6 [2, 4, 5] aI z;?_
 cases H
 exact ⟨z, _, _, gR, ⟨k, z, tv⟩, aJ⟩)
 refine have aK:=Hp.sink (A := [bx F [string E] 9]) (K := [bx p [int .i64 0] 3, bx f [slice a a1.Glyphs.length b, slice c a1.Kerns.length d] 25]) I;(pL (sy := (0, none)) am aK ao ⟨_, z, Gh.le_refl _, z, tv⟩).mono<|?_
 rintro _ bD ⟨bE, aL, bF, aN, ⟨K, rfl, aP, rfl, _⟩, rfl⟩
 refine have aQ:=Hp.front aN 1 z;?_
 rcases al with _ | j
 refine ⟨_, rfl, LoopState.ready, none, aL, _, (fun h => nomatch h), aQ, fun bG J => ?_⟩
 refine ag _ _ _<|sr fun bH aR=>ld J 1 bv z z z<|aj z<|aj z<|nl<|aR _ _ _<|wr<|?_
 refine ⟨.inr rfl, (r :: ([] : List Nat)), _, _, rfl, Hp.marks (K := [bx F [string E] 9, bx p [int .i64 q] 3, bx f [slice a a1.Glyphs.length b, slice c a1.Kerns.length d] 25]) J, fun bI aS => ?_⟩
 refine have aT:=Hp.pick 3 [] aS z;?_
 cases H
 exact ⟨_, ⟨_, _, z, z, ⟨_, _, z, z, z⟩⟩, (Hp.low aP aT), z⟩
 cases H
theorem pq {a1 a10 f k l m n o p G L w} (H : df a1 a10 f = some (o, p)) (hI : Hp G L w) (u : a1.Glyphs.length ≤ l) (v : Dat au G k a1.Glyphs) (x : a1.Kerns.length ≤ n) (y : Dat ay G m a1.Kerns) :
    Calls Tryz.prog 41 [agg [slice k a1.Glyphs.length l, slice m a1.Kerns.length n].toArray, string a10, int .i64 f].toArray w fun e w' => Hp G L w' ∧ e = .returned (tuple [int .i64 o, int .i64 p].toArray) := by
 refine ac (N := 34) Tryz.func41 z z (Nat.le_of_ble_eq_true z)<|?_
 unfold df at H
 refine sr fun R A=>io hI z z fun S T q=>aj z<|aj z<|nl<|A _ _ _<|sr fun U B=>d9 q 0 fw z z z z<|mv z<|iJ H fun r g C H=>cv bo80 (ur C q u v x y) z z fun V h=>mv z<|cK z z<|cK z z<|?_
 refine aj z<|aj z<|nl<|B _ _ _<|sQ fun W D=>sr fun X E=>mv z<|bA z z<|mv z<|bK H fun s hC H=>js 3 h [(2, int .i64 f), (8, int .i64 r), (9, int .i64 g), (21, bool s)] ?_ fun _ Y i=>?_
 refine have H:=hC;dC (g = 1) (fun a=>?_) fun a=>?_
 refine yK a H fun H=>Sk 2 z z (bY a) z<|bR (bY a) z<|nl<|?_
 cases H
 exact je ⟨z, z, z, z, tv⟩ h
 refine nK a H fun H=>mv (hw:=gY z z z (bN a)) z<|aN (hw:=gY z z z (bN a)) z z<|b7 (bN a) z<|nl<|?_
 cases H
 exact je ⟨z, z, z, z, tv⟩ h
 refine mv z<|bK H fun t hC H=>js 3 i [(2, int .i64 f), (8, int .i64 r), (9, int .i64 g), (25, bool t)] ?_ fun _ Z j=>?_
 refine have H:=hC;dC (s = true) (fun b=>?_) fun b=>?_
 refine yK b H fun H=>Sk 2 z z (vY b) z<|bR (vY b) z<|nl<|?_
 cases H
 exact je ⟨z, z, z, z, tv⟩ i
 refine nK b H fun H=>mv (hw:=gY z z z (vN b)) z<|cc (hw:=gY z z z (vN b)) z z<|b7 (vN b) z<|nl<|?_
 cases H
 exact je ⟨z, z, z, z, tv⟩ i
 refine nl<|E _ _ _<|dC (t = true) (fun c=>?_) fun c=>?_
 refine yK c H fun H=>wt (vY c)<|sr fun aa F=>aj z<|aj z<|nl<|F _ _ _<|wr<|have I:=Hp.pick 1 [] j z;?_
 cases H
 exact rt ⟨_, _, z, z, ⟨_, _, z, z, z⟩⟩ I
 refine nK c H fun H=>wf (vN c)<|ws<|D _ _ _<|sQ fun ab J=>sr fun ad K=>mv z<|dW z z<|nl<|K _ _ _<|dC (¬ g = 0) (fun d=>?_) fun d=>?_
 refine yK d H fun H=>wt (bY d)<|sr fun ae M=>mv z<|aj z<|aj z<|nl<|M _ _ _<|wr<|have O:=Hp.pick 1 [] j z;?_
 cases H
 exact rt ⟨_, _, z, z, ⟨_, _, z, z, z⟩⟩ O
 refine nK d H fun H=>wf (bN d)<|ws<|J _ _ _<|sr fun af P=>mv z<|mv z<|CB z z<|ba z z<|?_
 refine AX rfl rfl (by decide) ?_
 refine aj z<|aj z<|nl<|P _ _ _<|wr<|have Q:=Hp.pick 1 [] j z;?_
 cases H
 exact rt ⟨_, _, z, z, ⟨_, _, z, z, z⟩⟩ Q
theorem kP {a1 f g k G L w} (H : cq a1 = some k) (hI : Hp G L w) (T : a1.length ≤ g) (s : Dat aS G f a1) :
    Calls Tryz.prog 98 [slice f a1.length g, func (.func 68) [].toArray [].toArray].toArray w fun e w' => Hp G L w' ∧ e = .returned (int .i64 k) := by
 refine ac (N := 19) Tryz.func98 z z (Nat.le_of_ble_eq_true z)<|?_
 unfold cq at H
 refine sr fun U t=>aj z<|nl<|t _ _ _<|sQ fun V u=>sr fun W x=>mv z<|q_len vU z<|mv z<|nl<|x _ _ _<|wb<|bK H fun h hC H=>aq (Q := fun e r ds w => match (generalizing := false) h with | (Sum.inl l) => e = .ret ∧ ds = [] ∧ Has [(4, int .i64 l)] r ∧ Hp G (L) w ∧ True | (Sum.inr _) => e = .exit 0 ∧ ds = [] ∧ Has [] r ∧ Hp G (L) w ∧ True) ?_ ?_
 refine aB fun I q=>?_
 refine aV.partial_correctness a1 (fun b o => ∀ (r : Rg) (w : World), Has [(0, slice f a1.length g), (1, func (.func 68) [].toArray [].toArray), (7, int .i64 (a1.length : Int)), (8, int .i64 b)] r → Hp G (L) w → o = h → I r [] w) ?_ 0 _ hC _ _ ⟨rfl, rfl, rfl, rfl, tv⟩ hI rfl
 intro _ ih b o H r X a i ho
 rw [ho] at H; clear ho
 rw [a.eq]; clear a
 refine q _ _ _<|sr fun Y y=>aN z z<|nl<|y _ _ _<|sQ fun Z A=>dC (b < (a1.length : Int)) (fun c=>?_) fun c=>?_
 refine yK c H fun H=>wt (bY c)<|ws<|A _ _ _<|sQ fun aa B=>wb<|sr fun ab C=>mv z<|aj z<|nl<|C _ _ _<|sr fun ad D=>mv z<|mv z<|?_
 refine mv z<|iK H fun⟨m, n⟩H=>?_
 obtain ⟨af, ag, E, F, ah, J⟩ := Dat.get s aG (b) m n
 obtain ⟨rfl⟩ := dU F
 refine bP p7 z E z m n<|ki i s0 z (cs := [int .i64 ((a1.getD (Int.toNat b) aG).At), bool ((a1.getD (Int.toNat b) aG).Hyphen)]) z (fun j v hv => gR.cel _ _ (J j v hv))<|bK H fun K M H=>cv bo68 (py (a1 := (a1.getD (Int.toNat b) aG)) M i) z z fun ai p=>nl<|D _ _ _<|dC (K = true) (fun d=>?_) fun d=>?_
 refine yK d H fun H=>wt (vY d)<|sr fun ak O=>mv z<|aj z<|nl<|O _ _ _<|wr<|?_
 cases H
 exact ⟨z, z, ⟨z, tv⟩, p, tv⟩
 exact nK d H fun H=>wf (vN d)<|ws<|B _ _ _<|ae<|ba z z<|mv z<|nl<|ih _ _ H _ _ ⟨z, z, z, z, tv⟩ p z
 refine nK c H fun H=>wf (bN c)<|wx<|?_
 cases H
 exact ⟨z, z, trivial, i, tv⟩
 rcases h with l | _
 rintro e r ds al ⟨rfl, rfl, a, P, _⟩
 rw [a.eq]; clear a
 cases H
 exact rt ⟨_, _, z, z, z⟩ P
 rintro e r ds am ⟨rfl, rfl, a, R, _⟩
 rw [a.eq]; clear a
 refine u _ _ _<|sr fun an S=>aj z<|nl<|S _ _ _<|wr<|?_
 cases H
 exact rt ⟨_, _, z, z, z⟩ R
theorem j9 {a1 a b c G L w} (H : bC a1 = some c) (hI : Hp G L w) (d : a1.length ≤ b) (f : Dat aS G a a1) :
    Calls Tryz.prog 67 [slice a a1.length b, func (.func 68) [].toArray [].toArray].toArray w fun e w' => Hp G L w' ∧ e = .returned (bool c) := by
 refine ac (N := 9) Tryz.func67 z z (Nat.le_of_ble_eq_true z)<|?_
 unfold bC at H
 refine sr fun k g=>aj z<|nl<|g _ _ _<|sr fun l h=>mv z<|mv z<|bK H fun m i H=>cv EJ (kP i hI d f) z z fun n j=>gM z z<|aj z<|nl<|h _ _ _<|wr<|?_
 cases H
 exact rt ⟨_, _, z, z, z⟩ j
theorem e7 {a1 a10 a Y q r s t C D} {rr : (Sum (ByteArray × (List ah)) (Sum (ByteArray × (List ah)) (ByteArray × (List ah) × ai × Int)))} {G L w} (H : cO a1 a10 a Y = some rr) (hI : Hp G L w) (k : a1.Glyphs.length ≤ r) (l : Dat au G q a1.Glyphs) (m : a1.Kerns.length ≤ t) (n : Dat ay G s a1.Kerns) (aL : a10.Keep.length ≤ D) (aN : Dat Kd.str G C a10.Keep) :
    Calls Tryz.prog 35 [agg [slice q a1.Glyphs.length r, slice s a1.Kerns.length t].toArray, agg [int .i64 a10.Before, int .i64 a10.Behind, slice C a10.Keep.length D].toArray, string a, int .i64 Y].toArray w fun e w' => match (generalizing := false) rr with | (Sum.inl (aO, E)) => ∃ (F : Option Addr) (I : Nat) (G' : Gh), G ≤ G' ∧ Hp G' (tk (slice F E.length I) 2 114 :: L) w' ∧ E.length ≤ I ∧ Dat aS G' F E ∧ Own F I ∧ e = .returned (tuple [agg [string aO, slice F E.length I, Value.nilFunc].toArray, int .i64 1].toArray) | (Sum.inr (Sum.inl (aP, J))) => ∃ (K : Option Addr) (M : Nat) (G' : Gh), G ≤ G' ∧ Hp G' (tk (slice K J.length M) 2 114 :: L) w' ∧ J.length ≤ M ∧ Dat aS G' K J ∧ Own K M ∧ e = .returned (tuple [agg [string aP, slice K J.length M, Value.nilFunc].toArray, int .i64 20].toArray) | (Sum.inr (Sum.inr (aQ, O, p, aR))) => ∃ (Q : Option Addr) (R : Nat) (al : Nat) (am : Option Addr) (an : Nat) (ao : Option Addr) (ap : Nat) (aq : Nat) (G' : Gh), G ≤ G' ∧ Hp G' (tk (slice Q O.length R) 2 114 :: bx al [slice am p.Glyphs.length an, slice ao p.Kerns.length ap] 25 :: bx aq [int .i64 aR] 3 :: L) w' ∧ O.length ≤ R ∧ Dat aS G' Q O ∧ Own Q R ∧ p.Glyphs.length ≤ an ∧ Dat au G' am p.Glyphs ∧ p.Kerns.length ≤ ap ∧ Dat ay G' ao p.Kerns ∧ e = .returned (tuple [agg [string aQ, slice Q O.length R, func (.func 70) [].toArray [pointer (some ⟨al, 0, none⟩), pointer (some ⟨aq, 0, none⟩)].toArray].toArray, int .i64 0].toArray) := by
 refine ac (N := 68) Tryz.func35 z z (Nat.le_of_ble_eq_true z)<|?_
 unfold cO at H
 refine sr fun cb aT=>io hI z z fun c cc aU=>io aU z z fun aV cd aW=>io aW z z fun d ce aX=>aM aX sE fun h cf ar=>aj z<|nl<|aT _ _ _<|sr fun cg aY=>d9 ar 2 jT z z z z<|mv z<|iJ H fun f aZ a0 H=>fU (vs := [agg [int .i64 a10.Before, int .i64 a10.Behind, slice C a10.Keep.length D].toArray, string a]) bo66 z z (sk a0 ar aL aN)<|?_
 rintro _ ch ⟨Z, aa, a2, b, ab, ad, ae, av, rfl⟩
 refine ⟨_, rfl, ?_⟩
 refine mv z<|cK z z<|cK z z<|aj z<|aj z<|nl<|aY _ _ _<|sQ fun ci a3=>sr fun cj a4=>mv z<|dW z z<|mv z<|bK H fun aw hC H=>?_
 refine jS 4 a2 [(2, string a), (4, pointer (some ⟨c, 0, none⟩)), (7, pointer (some ⟨d, 0, none⟩)), (8, pointer (some ⟨h, 0, none⟩)), (10, slice Z f.length aa), (30, bool aw)] (bx h [string (⟨#[]⟩ : ByteArray), slice none 0 0, Value.nilFunc] 79 :: bx d [int .i64 Y] 3 :: bx aV [int .i64 a10.Before, int .i64 a10.Behind, slice C a10.Keep.length D] 28 :: bx c [slice q a1.Glyphs.length r, slice s a1.Kerns.length t] 25 :: tk (slice Z f.length aa) 2 114 :: L) ?_ fun _ ck S=>?_
 refine have H:=hC;dC (¬ aZ = 0) (fun i=>?_) fun i=>?_
 refine yK i H fun H=>Sk 3 z z (bY i) z<|bR (bY i) z<|nl<|have a5:=Hp.pick 5 [1, 2, 3, 4, 0] ab z;?_
 cases H
 exact je ⟨z, z, z, z, z, z, tv⟩ a5
 refine nK i H fun H=>d9 (hw:=gY z z z (bN i)) ab 4 fw z z z z<|bK H fun cl a6 H=>cv (hw:=gY z z z (bN i)) Dy (mL a6 ab k (Dat.mono b l) m (Dat.mono b n)) z z fun cm a7=>be (hw:=gY z z z (bN i)) z<|b7 (bN i) z<|nl<|have a8:=Hp.pick 5 [1, 2, 3, 4, 0] a7 z;?_
 cases H
 exact je ⟨z, z, z, z, z, z, tv⟩ a8
 refine mv z<|bK H fun ax hC H=>js 4 S [(2, string a), (4, pointer (some ⟨c, 0, none⟩)), (7, pointer (some ⟨d, 0, none⟩)), (8, pointer (some ⟨h, 0, none⟩)), (10, slice Z f.length aa), (35, bool ax)] ?_ fun _ cn az=>?_
 refine have H:=hC;dC (aw = true) (fun j=>?_) fun j=>?_
 refine yK j H fun H=>Sk 3 z z (vY j) z<|bR (vY j) z<|nl<|?_
 cases H
 exact je ⟨z, z, z, z, z, z, tv⟩ S
 refine nK j H fun H=>ld (hw:=gY z z z (vN j)) S 1 bv z z z<|bK H fun co a9 H=>cv (hw:=gY z z z (vN j)) wA (cE a9 S) z z fun cp ba=>be (hw:=gY z z z (vN j)) z<|b7 (vN j) z<|nl<|?_
 cases H
 exact je ⟨z, z, z, z, z, z, tv⟩ ba
 refine nl<|a4 _ _ _<|dC (ax = true) (fun u=>?_) fun u=>?_
 refine yK u H fun H=>wt (vY u)<|sr fun cq bb=>bO (vs := []) (cs := [string (⟨#[]⟩ : ByteArray), slice none 0 0, Value.nilFunc]) sE zS z z<|fX az 0 m2 z z z z z z z fun cr aA=>aj z<|nl<|bb _ _ _<|wr<|have bc:=bW (P := Tryz.prog) aA 0 (cs := [string (⟨#[]⟩ : ByteArray), slice none 0 0, Value.nilFunc]) (g := h) (o := 0) m2 z z z;have bd:=Hp.emp aA;have bf:=Hp.pick 6 [0] bd z;?_
 cases H
 exact ⟨.inr z, z, _, ⟨_, _, _, z, z, bc, ⟨_, _, z, z, z⟩⟩, none, 0, _, b, bf, (show ([] : List ah).length ≤ 0 from Nat.le_refl 0), (Dat.nil _ _ _), Own.nil, z⟩
 refine nK u H fun H=>wf (vN u)<|ws<|a3 _ _ _<|sr fun ct bg=>mv z<|aj z<|nl<|bg _ _ _<|sQ fun cu aB=>sr fun cw bh=>mv z<|bK H fun bi bj H=>cv bo67 (j9 bj az ad ae) z z fun cx T=>?_
 refine nl<|bh _ _ _<|dC (bi = true) (fun v=>?_) fun v=>?_
 refine yK v H fun H=>wt (vY v)<|sr fun cy bk=>aj z<|nl<|bk _ _ _<|sr fun cz bl=>d9 T 3 fw z z z z<|mv z<|iJ H fun bm cA bn H=>cv B8 (ms bn T k (Dat.mono b l) m (Dat.mono b n)) z z fun cB af=>mv z<|cK z z<|cK z z<|?_
 refine aj z<|aj z<|nl<|bl _ _ _<|sr fun cC bo=>mv z<|be z<|nl<|bo _ _ _<|dC ((!bm) = true) (fun y=>?_) fun y=>?_
 refine yK y H fun H=>wt (vY y)<|sr fun cD bp=>bO (vs := []) (cs := [string (⟨#[]⟩ : ByteArray), slice none 0 0, Value.nilFunc]) sE zS z z<|fX af 0 m2 z z z z z z z fun cF aC=>aj z<|nl<|bp _ _ _<|wr<|have bq:=bW (P := Tryz.prog) aC 0 (cs := [string (⟨#[]⟩ : ByteArray), slice none 0 0, Value.nilFunc]) (g := h) (o := 0) m2 z z z;have br:=Hp.emp aC;have bs:=Hp.pick 6 [0] br z;?_
 cases H
 exact ⟨.inr z, z, _, ⟨_, _, _, z, z, bq, ⟨_, _, z, z, z⟩⟩, none, 0, _, b, bs, (show ([] : List ah).length ≤ 0 from Nat.le_refl 0), (Dat.nil _ _ _), Own.nil, z⟩
 refine nK y H fun H=>wf (vN y)<|ws<|aB _ _ _<|sQ fun cG bt=>sr fun cH bu=>d9 af 3 fw z z z z<|mv z<|iJ H fun bw cI bz H=>cv B8 (ms bz af k (Dat.mono b l) m (Dat.mono b n)) z z fun cJ aD=>mv z<|cK z z<|cK z z<|aj z<|?_
 refine aj z<|nl<|bu _ _ _<|sr fun cL bA=>mv z<|be z<|nl<|bA _ _ _<|dC ((!bw) = true) (fun A=>?_) fun A=>?_
 refine yK A H fun H=>wt (vY A)<|sr fun cM bB=>bO (vs := []) (cs := [string (⟨#[]⟩ : ByteArray), slice none 0 0, Value.nilFunc]) sE zS z z<|fX aD 0 m2 z z z z z z z fun cN aE=>aj z<|nl<|bB _ _ _<|wr<|have bC:=bW (P := Tryz.prog) aE 0 (cs := [string (⟨#[]⟩ : ByteArray), slice none 0 0, Value.nilFunc]) (g := h) (o := 0) m2 z z z;have bD:=Hp.emp aE;have bE:=Hp.pick 6 [0] bD z;?_
 cases H
 exact ⟨.inr z, z, _, ⟨_, _, _, z, z, bC, ⟨_, _, z, z, z⟩⟩, none, 0, _, b, bE, (show ([] : List ah).length ≤ 0 from Nat.le_refl 0), (Dat.nil _ _ _), Own.nil, z⟩
 refine nK A H fun H=>wf (vN A)<|ws<|bt _ _ _<|sr fun cP bF=>qG (vs := []) (us := [pointer (some ⟨c, 0, none⟩), pointer (some ⟨d, 0, none⟩)]) z z<|aj z<|nl<|bF _ _ _<|sr fun cQ bG=>mv z<|mv z<|mv z<|cX fA z<|?_
 refine bO (vs := [(0, int .i64 (a.size : Int))]) (cs := [int .i64 (a.size : Int), bool false]) mR uI z z<|?_
 refine mm aD (vs := [(0, agg [int .i64 (a.size : Int), bool false].toArray)]) (cs := [int .i64 (a.size : Int), bool false]) p7 mR rfl (by decide) rfl rfl (fun cR cS aF => ?_)
 refine iK H fun cT H=>?_
 refine lu (xs := f) (ys := [(⟨(a.size : Int), false⟩ : ah)]) aS aF 5 p7 mR rfl rfl rfl rfl av ad ae (jF aF 0 vU rfl rfl) ⟨[int .i64 (a.size : Int), bool false], _, rfl, (iD (x := (⟨(a.size : Int), false⟩ : ah))), rfl⟩ rfl (by simp only [List.length_cons, List.length_nil]; omega) (by simp only [List.length_cons, List.length_nil]; omega) (fun U V cU cV ag bH bI bJ bL => ?_)
 refine mv z<|bO (vs := [(0, string a), (1, slice U (f ++ [(⟨(a.size : Int), false⟩ : ah)]).length V), (2, func (.func 70) [].toArray [pointer (some ⟨c, 0, none⟩), pointer (some ⟨d, 0, none⟩)].toArray)]) (cs := [string a, slice U (f ++ [(⟨(a.size : Int), false⟩ : ah)]).length V, func (.func 70) [].toArray [pointer (some ⟨c, 0, none⟩), pointer (some ⟨d, 0, none⟩)].toArray]) sE zS z z<|fX bL 1 m2 z z z z z z z fun cW aG=>aj z<|nl<|bG _ _ _<|wr<|have bM:=bW (P := Tryz.prog) aG 1 (cs := [string a, slice U (f ++ [(⟨(a.size : Int), false⟩ : ah)]).length V, func (.func 70) [].toArray [pointer (some ⟨c, 0, none⟩), pointer (some ⟨d, 0, none⟩)].toArray]) (g := h) (o := 0) m2 z z z;have bP:=Hp.pick 6 [5, 4, 2] aG z;?_
 cases H
 exact ⟨.inr z, z, _, ⟨_, _, _, z, z, bM, ⟨_, _, z, z, z⟩⟩, U, V, c, q, r, s, t, d, _, (gT b ag), bP, bI, bJ, bH, k, (Dat.mono (gT b ag) l), m, (Dat.mono (gT b ag) n), z⟩
 refine nK v H fun H=>wf (vN v)<|ws<|aB _ _ _<|sQ fun cY bQ=>sr fun cZ bS=>d9 T 3 fw z z z z<|mv z<|iJ H fun bT c0 bU H=>cv B8 (ms bU T k (Dat.mono b l) m (Dat.mono b n)) z z fun c1 aH=>mv z<|cK z z<|cK z z<|aj z<|?_
 refine aj z<|nl<|bS _ _ _<|sr fun c2 bV=>mv z<|be z<|nl<|bV _ _ _<|dC ((!bT) = true) (fun B=>?_) fun B=>?_
 refine yK B H fun H=>wt (vY B)<|sr fun c4 bX=>bO (vs := []) (cs := [string (⟨#[]⟩ : ByteArray), slice none 0 0, Value.nilFunc]) sE zS z z<|fX aH 0 m2 z z z z z z z fun c5 aI=>aj z<|nl<|bX _ _ _<|wr<|have bZ:=bW (P := Tryz.prog) aI 0 (cs := [string (⟨#[]⟩ : ByteArray), slice none 0 0, Value.nilFunc]) (g := h) (o := 0) m2 z z z;have b0:=Hp.emp aI;have b1:=Hp.pick 6 [0] b0 z;?_
 cases H
 exact ⟨.inr z, z, _, ⟨_, _, _, z, z, bZ, ⟨_, _, z, z, z⟩⟩, none, 0, _, b, b1, (show ([] : List ah).length ≤ 0 from Nat.le_refl 0), (Dat.nil _ _ _), Own.nil, z⟩
 refine nK B H fun H=>wf (vN B)<|ws<|bQ _ _ _<|sr fun c6 b2=>qG (vs := []) (us := [pointer (some ⟨c, 0, none⟩), pointer (some ⟨d, 0, none⟩)]) z z<|aj z<|nl<|b2 _ _ _<|sr fun c8 b3=>mv z<|mv z<|mv z<|cX fA z<|?_
 refine bO (vs := [(0, int .i64 (a.size : Int))]) (cs := [int .i64 (a.size : Int), bool false]) mR uI z z<|?_
 refine mm aH (vs := [(0, agg [int .i64 (a.size : Int), bool false].toArray)]) (cs := [int .i64 (a.size : Int), bool false]) p7 mR rfl (by decide) rfl rfl (fun c9 da aJ => ?_)
 refine iK H fun db H=>?_
 refine lu (xs := f) (ys := [(⟨(a.size : Int), false⟩ : ah)]) aS aJ 5 p7 mR rfl rfl rfl rfl av ad ae (jF aJ 0 vU rfl rfl) ⟨[int .i64 (a.size : Int), bool false], _, rfl, (iD (x := (⟨(a.size : Int), false⟩ : ah))), rfl⟩ rfl (by simp only [List.length_cons, List.length_nil]; omega) (by simp only [List.length_cons, List.length_nil]; omega) (fun W X dc dd ak b4 b5 b6 b8 => ?_)
 refine mv z<|bO (vs := [(0, string a), (1, slice W (f ++ [(⟨(a.size : Int), false⟩ : ah)]).length X), (2, func (.func 70) [].toArray [pointer (some ⟨c, 0, none⟩), pointer (some ⟨d, 0, none⟩)].toArray)]) (cs := [string a, slice W (f ++ [(⟨(a.size : Int), false⟩ : ah)]).length X, func (.func 70) [].toArray [pointer (some ⟨c, 0, none⟩), pointer (some ⟨d, 0, none⟩)].toArray]) sE zS z z<|fX b8 1 m2 z z z z z z z fun de aK=>aj z<|nl<|b3 _ _ _<|wr<|have b9:=bW (P := Tryz.prog) aK 1 (cs := [string a, slice W (f ++ [(⟨(a.size : Int), false⟩ : ah)]).length X, func (.func 70) [].toArray [pointer (some ⟨c, 0, none⟩), pointer (some ⟨d, 0, none⟩)].toArray]) (g := h) (o := 0) m2 z z z;have ca:=Hp.pick 6 [5, 4, 2] aK z;?_
 cases H
 exact ⟨.inr z, z, _, ⟨_, _, _, z, z, b9, ⟨_, _, z, z, z⟩⟩, W, X, c, q, r, s, t, d, _, (gT b ak), ca, b5, b6, b4, k, (Dat.mono (gT b ak) l), m, (Dat.mono (gT b ak) n), z⟩
theorem pt {a1 u v G L w} (H : gI a1 = some (u, v)) (hI : Hp G L w) :
    Calls Tryz.prog 73 [string a1].toArray w fun e w' => Hp G L w' ∧ e = .returned (tuple [int .i64 u, int .i64 v].toArray) := by
 refine ac (N := 32) Tryz.func73 z z (Nat.le_of_ble_eq_true z)<|?_
 unfold gI at H
 refine sr fun K2 O=>aj z<|aj z<|nl<|O _ _ _<|sQ fun K4 P=>sr fun K6 R=>mv z<|bK H fun S T H=>cv zP (ij T hI) z z fun aI x=>be z<|nl<|R _ _ _<|dC ((!S) = true) (fun j=>?_) fun j=>?_
 refine yK j H fun H=>wt (vY j)<|sr fun aJ U=>aj z<|aj z<|nl<|U _ _ _<|wr<|?_
 cases H
 exact rt ⟨_, _, z, z, ⟨_, _, z, z, z⟩⟩ x
 refine nK j H fun H=>wf (vN j)<|ws<|P _ _ _<|sr fun aK V=>aj z<|aj z<|nl<|V _ _ _<|sQ fun aL W=>sr fun aM X=>mv z<|yP x fA z fun b aN Y=>nl<|?_
 refine X _ _ _<|wb<|iJ H fun y A hC H=>aq (Q := fun e r ds w => e = .exit 0 ∧ ds = [] ∧ Has [(4, int .i64 y)] r ∧ Hp G (ob b (Obj.stringIter a1 A) :: L) w ∧ True) ?_ ?_
 refine aB fun I M=>?_
 refine cY.partial_correctness a1 (fun d f c o => ∀ (r : Rg) (w : World), Has [(4, int .i64 d), (5, bool f), (12, pointer (some ⟨b, 0, none⟩))] r → Hp G (ob b (Obj.stringIter a1 c) :: L) w → o = (y, A) → I r [] w) ?_ 0 false 0 _ hC _ _ ⟨rfl, rfl, rfl, tv⟩ Y rfl
 intro _ ih d f c o H r aO a s ho
 rw [ho] at H; clear ho
 rw [a.eq]; clear a
 refine M _ _ _<|sr fun aP B=>dC (c < a1.size) (fun k=>?_) fun k=>?_
 refine yK k H fun H=>yn s 0 z z k fun aQ Z=>cK z z<|nl<|B _ _ _<|sQ fun aR aa=>wt z<|ws<|aa _ _ _<|wb<|sr fun aS ab=>cK z z<|aj z<|nl<|?_
 refine ab _ _ _<|sr fun aT ad=>mv z<|rA AW Az z<|bK H fun l af H=>cv we (fe af Z) z z fun aU g=>nl<|ad _ _ _<|wb<|sQ fun aV ag=>bK H fun C hC H=>?_
 refine aq (Q := fun e r ds w => match (generalizing := false) C with | (Sum.inl _) => e = .normal ∧ ds = [] ∧ Has [(4, int .i64 d), (5, bool f), (12, pointer (some ⟨b, 0, none⟩))] r ∧ Hp G (ob b (Obj.stringIter a1 (c + (Utf8.decode a1 c).2)) :: L) w ∧ True | (Sum.inr D) => e = .exit 2 ∧ ds = [] ∧ Has [(4, int .i64 d), (5, bool D), (12, pointer (some ⟨b, 0, none⟩))] r ∧ Hp G (ob b (Obj.stringIter a1 (c + (Utf8.decode a1 c).2)) :: L) w ∧ True) ?_ ?_
 refine have H:=hC;wb<|wb<|sQ fun aW ah=>wb<|sQ fun aX ai=>bK H fun E hC H=>?_
 refine aq (Q := fun e r ds w => match (generalizing := false) E with | (Sum.inl _) => e = .normal ∧ ds = [] ∧ Has [(4, int .i64 d), (5, bool f), (12, pointer (some ⟨b, 0, none⟩))] r ∧ Hp G (ob b (Obj.stringIter a1 (c + (Utf8.decode a1 c).2)) :: L) w ∧ True | (Sum.inr (Sum.inl _)) => e = .exit 6 ∧ ds = [] ∧ Has [(4, int .i64 d), (5, bool f), (12, pointer (some ⟨b, 0, none⟩))] r ∧ Hp G (ob b (Obj.stringIter a1 (c + (Utf8.decode a1 c).2)) :: L) w ∧ True | (Sum.inr (Sum.inr (Sum.inl _))) => e = .exit 5 ∧ ds = [] ∧ Has [(4, int .i64 d), (5, bool f), (12, pointer (some ⟨b, 0, none⟩))] r ∧ Hp G (ob b (Obj.stringIter a1 (c + (Utf8.decode a1 c).2)) :: L) w ∧ True | (Sum.inr (Sum.inr (Sum.inr _))) => e = .exit 4 ∧ ds = [] ∧ Has [(4, int .i64 d), (12, pointer (some ⟨b, 0, none⟩))] r ∧ Hp G (ob b (Obj.stringIter a1 (c + (Utf8.decode a1 c).2)) :: L) w ∧ True) ?_ ?_
 refine have H:=hC;wb<|sQ fun aY ak=>sQ fun aZ al=>sr fun a0 am=>bA z z<|aj z<|nl<|am _ _ _<|dC (l = 6) (fun m=>?_) fun m=>?_
 refine yK m H fun H=>wt (bY m)<|wx<|?_
 cases H
 exact ⟨z, z, ⟨z, z, z, tv⟩, g, tv⟩
 refine nK m H fun H=>wf (bN m)<|ws<|al _ _ _<|sQ fun a2 an=>sr fun a3 ao=>bA z z<|aj z<|nl<|ao _ _ _<|dC (l = 4) (fun n=>?_) fun n=>?_
 refine yK n H fun H=>wt (bY n)<|wx<|?_
 cases H
 exact ⟨z, z, ⟨z, z, tv⟩, g, tv⟩
 refine nK n H fun H=>wf (bN n)<|ws<|an _ _ _<|sQ fun a4 t=>sr fun a5 ap=>bA z z<|aj z<|nl<|ap _ _ _<|dC (l = 1) (fun h=>?_) fun h=>?_
 refine yK h H fun H=>wt (bY h)<|ws<|t _ _ _<|wt (bY h)<|wx<|?_
 cases H
 exact ⟨z, z, ⟨z, z, z, tv⟩, g, tv⟩
 refine nK h H fun H=>wf (bN h)<|sr fun a6 ar=>bA z z<|aj z<|nl<|ar _ _ _<|dC (l = 2) (fun i=>?_) fun i=>?_
 refine yK i H fun H=>wt (bY i)<|ws<|t _ _ _<|wt (bY i)<|wx<|?_
 cases H
 exact ⟨z, z, ⟨z, z, z, tv⟩, g, tv⟩
 refine nK i H fun H=>wf (bN i)<|ae<|bA z z<|aj z<|nl<|t _ _ _<|dC (l = 3) (fun p=>?_) fun p=>?_
 refine yK p H fun H=>wt (bY p)<|wx<|?_
 cases H
 exact ⟨z, z, ⟨z, z, z, tv⟩, g, tv⟩
 refine nK p H fun H=>wf (bN p)<|ws<|ak _ _ _<|wx<|?_
 cases H
 exact ⟨z, z, ⟨z, z, z, tv⟩, g, tv⟩
 rcases E with _ | _ | _ | _
 rintro e r ds a7 ⟨rfl, rfl, a, au, _⟩
 rw [a.eq]; clear a
 refine ai _ _ _<|wx<|?_
 cases H
 exact ⟨z, z, ⟨z, z, z, tv⟩, au, tv⟩
 rintro e r ds a8 ⟨rfl, rfl, a, av, _⟩
 rw [a.eq]; clear a
 cases H
 exact ⟨z, z, ⟨z, z, z, tv⟩, av, tv⟩
 rintro e r ds a9 ⟨rfl, rfl, a, aw, _⟩
 rw [a.eq]; clear a
 cases H
 exact ⟨z, z, ⟨z, z, z, tv⟩, aw, tv⟩
 rintro e r ds bb ⟨rfl, rfl, a, ax, _⟩
 rw [a.eq]; clear a
 refine ah _ _ _<|sr fun bc ay=>aj z<|nl<|ay _ _ _<|wx<|?_
 cases H
 exact ⟨z, z, ⟨z, z, z, tv⟩, ax, tv⟩
 rcases C with _ | D
 rintro e r ds bd ⟨rfl, rfl, a, F, _⟩
 rw [a.eq]; clear a
 refine ag _ _ _<|sQ fun bf J=>sQ fun bg K=>sr fun bh az=>mv z<|be z<|nl<|az _ _ _<|dC ((!f) = true) (fun q=>?_) fun q=>?_
 exact yK q H fun H=>wt (vY q)<|ae<|mv z<|ba z z<|aj z<|nl<|K _ _ _<|ae<|aj z<|nl<|J _ _ _<|wx<|ih _ _ _ _ H _ _ ⟨z, z, z, tv⟩ F z
 exact nK q H fun H=>wf (vN q)<|ws<|K _ _ _<|ae<|aj z<|nl<|J _ _ _<|wx<|ih _ _ _ _ H _ _ ⟨z, z, z, tv⟩ F z
 rintro e r ds bi ⟨rfl, rfl, a, aA, _⟩
 rw [a.eq]; clear a
 exact ih _ _ _ _ H _ _ ⟨z, z, z, tv⟩ aA z
 refine nK k H fun H=>yB s 0 z z k<|cK z z<|nl<|B _ _ _<|sQ fun bj bk=>wf z<|wx<|?_
 cases H
 exact ⟨z, z, ⟨z, tv⟩, s, tv⟩
 rintro e r ds bl ⟨rfl, rfl, a, aC, _⟩
 rw [a.eq]; clear a
 refine W _ _ _<|sr fun bm aD=>mv z<|aj z<|aj z<|nl<|aD _ _ _<|wr<|have aE:=Hp.pick 1 [] aC z;?_
 cases H
 exact rt ⟨_, _, z, z, ⟨_, _, z, z, z⟩⟩ aE
theorem mc {a1 b c a G L w} (H : dJ a1 = some a) (hI : Hp G L w) (i : a1.length ≤ c) (j : Dat aS G b a1) :
    Calls Tryz.prog 100 [slice b a1.length c].toArray w fun e w' => ∃ (d : Nat) (f : Option Addr) (g : Nat) (G' : Gh), G ≤ G' ∧ Hp G' (bx d [slice f a.length g] 77 :: L) w' ∧ a.length ≤ g ∧ Dat aS G' f a ∧ e = .returned (func (.func 132) [].toArray [pointer (some ⟨d, 0, none⟩)].toArray) := by
 refine ac (N := 4) Tryz.func100 z z (Nat.le_of_ble_eq_true z)<|?_
 unfold dJ at H
 refine sr fun n k=>io hI z z fun h o l=>aj z<|nl<|k _ _ _<|sr fun p m=>qG (vs := []) (us := [pointer (some ⟨h, 0, none⟩)]) z z<|aj z<|nl<|m _ _ _<|wr<|?_
 cases H
 exact ⟨.inr z, z, _, ⟨_, _, z, z, z⟩, h, b, c, _, gR, l, i, j, z⟩
theorem rO {a a1 c G L w} (H : mW a a1 = some c) (hI : Hp G L w) :
    Calls Tryz.prog 78 [string a, string a1].toArray w fun e w' => Hp G L w' ∧ e = .returned (string c) := by
 refine Bg<|?_
 unfold mW at H
 refine iK H fun hs H=>?_
 split at H
 rename_i b hb
 refine iK H fun hc H=>?_
 cases H
 rw [one_byte hb]
 exact Cn hI (Any.strings_Trim_one Tryz.l160 a b hc w hs)
 cases H
theorem oT {a a1 a2 b G L w} (H : strings_ReplaceAll a a1 a2 = some b) (hI : Hp G L w) (c : Gl G) :
    Calls Tryz.prog 79 [string a, string a1, string a2].toArray w fun e w' => Hp G L w' ∧ e = .returned (string b) := by
 refine Bg<|?_
 unfold strings_ReplaceAll at H
 refine iK H fun⟨hs, d, f⟩H=>?_
 cases H
 obtain ⟨m, hm⟩ := (c.get hI).maxlen
 exact of_below hI (Any.strings_ReplaceAll { Tryz.lM155 with } Tryz_extra a a1 a2 m w hs hm d (by rw [f]; omega))
theorem oJ {a1 a2 b a4 c G L w} (H : ix a1 a2 b a4 = some c) (hI : Hp G L w) (g : Gl G) :
    Calls Tryz.prog 40 [string a1, int .i64 a2, int .i64 b, bool a4].toArray w fun e w' => Hp G L w' ∧ e = .returned (string c) := by
 refine ac (N := 20) Tryz.func40 z z (Nat.le_of_ble_eq_true z)<|?_
 unfold ix at H
 refine sr fun v i=>aj z<|nl<|i _ _ _<|sr fun x j=>mv z<|mv z<|mv z<|iK H fun⟨k, m, n⟩H=>ug (l := a2) (h := b) fA z (.inr ⟨_, z, z⟩) (.inr ⟨_, z, z⟩) k m n<|bK H fun y o H=>cv bo79 (oT o hI (g.mono gR)) z z fun A p=>bK H fun B q H=>cv bo78 (rO q p) z z fun C d=>?_
 refine aj z<|nl<|j _ _ _<|sQ fun D f=>sr fun E r=>mv z<|nl<|r _ _ _<|dC (a4 = true) (fun a=>?_) fun a=>?_
 refine yK a H fun H=>wt (vY a)<|ae<|mv z<|iK H fun s H=>sm z z s<|aj z<|nl<|f _ _ _<|sr fun F t=>mv z<|aj z<|nl<|t _ _ _<|?_
 refine wr<|?_
 cases H
 exact rt ⟨_, _, z, z, z⟩ d
 refine nK a H fun H=>wf (vN a)<|ws<|f _ _ _<|sr fun I u=>mv z<|aj z<|nl<|u _ _ _<|wr<|?_
 cases H
 exact rt ⟨_, _, z, z, z⟩ d
theorem mN {a1 f g j G L w} (H : dq a1 = some j) (hI : Hp G L w) (R : a1.length ≤ g) (q : Dat (Kd.int .i64) G f a1) :
    Calls Tryz.prog 65 [slice f a1.length g, func (.func 32) [].toArray [].toArray].toArray w fun e w' => Hp G L w' ∧ e = .returned (int .i64 j) := by
 refine ac (N := 19) Tryz.func65 z z (Nat.le_of_ble_eq_true z)<|?_
 unfold dq at H
 refine sr fun S s=>aj z<|nl<|s _ _ _<|sQ fun T t=>sr fun U u=>mv z<|q_len lg z<|mv z<|nl<|u _ _ _<|wb<|bK H fun h hC H=>aq (Q := fun e r ds w => match (generalizing := false) h with | (Sum.inl k) => e = .ret ∧ ds = [] ∧ Has [(4, int .i64 k)] r ∧ Hp G (L) w ∧ True | (Sum.inr _) => e = .exit 0 ∧ ds = [] ∧ Has [] r ∧ Hp G (L) w ∧ True) ?_ ?_
 refine aB fun I p=>?_
 refine bz.partial_correctness a1 (fun d o => ∀ (r : Rg) (w : World), Has [(0, slice f a1.length g), (1, func (.func 32) [].toArray [].toArray), (7, int .i64 (a1.length : Int)), (8, int .i64 d)] r → Hp G (L) w → o = h → I r [] w) ?_ 0 _ hC _ _ ⟨rfl, rfl, rfl, rfl, tv⟩ hI rfl
 intro _ ih d o H r V a i ho
 rw [ho] at H; clear ho
 rw [a.eq]; clear a
 refine p _ _ _<|sr fun W v=>aN z z<|nl<|v _ _ _<|sQ fun X x=>dC (d < (a1.length : Int)) (fun b=>?_) fun b=>?_
 refine yK b H fun H=>wt (bY b)<|ws<|x _ _ _<|sQ fun Y y=>wb<|sr fun Z A=>mv z<|aj z<|nl<|A _ _ _<|sr fun aa B=>mv z<|mv z<|?_
 refine mv z<|iK H fun⟨l, m⟩H=>?_
 obtain ⟨ab, ad, C, D, af, E⟩ := Dat.get q (0 : Int) (d) l m
 obtain rfl := D
 refine bP dI z C z l m<|fO i bv z (gR.cel _ _ (E 0 _ z))<|bK H fun F J H=>cv bo32 (qH J i) z z fun ag n=>nl<|B _ _ _<|dC (F = true) (fun c=>?_) fun c=>?_
 refine yK c H fun H=>wt (vY c)<|sr fun ah K=>mv z<|aj z<|nl<|K _ _ _<|wr<|?_
 cases H
 exact ⟨z, z, ⟨z, tv⟩, n, tv⟩
 exact nK c H fun H=>wf (vN c)<|ws<|y _ _ _<|ae<|ba z z<|mv z<|nl<|ih _ _ H _ _ ⟨z, z, z, z, tv⟩ n z
 refine nK b H fun H=>wf (bN b)<|wx<|?_
 cases H
 exact ⟨z, z, trivial, i, tv⟩
 rcases h with k | _
 rintro e r ds ai ⟨rfl, rfl, a, M, _⟩
 rw [a.eq]; clear a
 cases H
 exact rt ⟨_, _, z, z, z⟩ M
 rintro e r ds ak ⟨rfl, rfl, a, O, _⟩
 rw [a.eq]; clear a
 refine t _ _ _<|sr fun al P=>aj z<|nl<|P _ _ _<|wr<|?_
 cases H
 exact rt ⟨_, _, z, z, z⟩ O
theorem lR {a1 a b c G L w} (H : cm a1 = some c) (hI : Hp G L w) (d : a1.length ≤ b) (f : Dat (Kd.int .i64) G a a1) :
    Calls Tryz.prog 34 [slice a a1.length b, func (.func 32) [].toArray [].toArray].toArray w fun e w' => Hp G L w' ∧ e = .returned (bool c) := by
 refine ac (N := 9) Tryz.func34 z z (Nat.le_of_ble_eq_true z)<|?_
 unfold cm at H
 refine sr fun k g=>aj z<|nl<|g _ _ _<|sr fun l h=>mv z<|mv z<|bK H fun m i H=>cv bo65 (mN i hI d f) z z fun n j=>gM z z<|aj z<|nl<|h _ _ _<|wr<|?_
 cases H
 exact rt ⟨_, _, z, z, z⟩ j
theorem mV {a1 a2 a h b i j c k l m n d o p q f g G L w} (H : eV a1 a2 a h b = some (q, f, g)) (hI : Hp G (bx c [slice k a.Glyphs.length l, slice m a.Kerns.length n] 25 :: bx d [int .i64 h] 3 :: L) w) (B : a2.length ≤ j) (C : Dat aS G i a2) (O : a.Glyphs.length ≤ l) (P : Dat au G k a.Glyphs) (Q : a.Kerns.length ≤ n) (R : Dat ay G m a.Kerns) (D : b.length ≤ p) (E : Dat (Kd.int .i64) G o b) :
    Calls Tryz.prog 37 [agg [string a1, slice i a2.length j, func (.func 70) [].toArray [pointer (some ⟨c, 0, none⟩), pointer (some ⟨d, 0, none⟩)].toArray].toArray, slice o b.length p].toArray w fun e w' => ∃ (r : Nat) (s : Option Addr) (t : Nat) (u : Nat) (v : Option Addr) (x : Nat) (G' : Gh), G ≤ G' ∧ Hp G' (bx r [string q, slice s f.length t, func (.func 70) [].toArray [pointer (some ⟨c, 0, none⟩), pointer (some ⟨d, 0, none⟩)].toArray] 79 :: bx u [slice v g.length x] 44 :: bx c [slice k a.Glyphs.length l, slice m a.Kerns.length n] 25 :: bx d [int .i64 h] 3 :: L) w' ∧ f.length ≤ t ∧ Dat aS G' s f ∧ g.length ≤ x ∧ Dat (Kd.int .i64) G' v g ∧ e = .returned (func (.func 72) [].toArray [pointer (some ⟨r, 0, none⟩), pointer (some ⟨u, 0, none⟩)].toArray) := by
 refine ac (N := 6) Tryz.func37 z z (Nat.le_of_ble_eq_true z)<|?_
 unfold eV at H
 refine sr fun S F=>io hI z z fun y T I=>io I z z fun A U J=>aj z<|nl<|F _ _ _<|sr fun V K=>qG (vs := []) (us := [pointer (some ⟨y, 0, none⟩), pointer (some ⟨A, 0, none⟩)]) z z<|aj z<|nl<|K _ _ _<|wr<|have M:=Hp.pick 4 [1, 0, 2, 3] J z;?_
 cases H
 exact ⟨.inr z, z, _, ⟨_, _, z, z, z⟩, y, i, j, A, o, p, _, gR, M, B, C, D, E, z⟩
theorem mP {a1 a4 a c G L w} (H : eH a1 a4 = some c) (hI : Hp G (bx a [int .i64 a4] 3 :: L) w) :
    Calls Tryz.prog 99 [agg [int .i64 a1.At, bool a1.Hyphen].toArray, pointer (some ⟨a, 0, none⟩)].toArray w fun e w' => Hp G (bx a [int .i64 a4] 3 :: L) w' ∧ e = .returned (bool c) := by
 refine ac (N := 8) Tryz.func99 z z (Nat.le_of_ble_eq_true z)<|?_
 unfold eH at H
 refine sr fun h d=>io hI z z fun i j b=>aj z<|nl<|d _ _ _<|sr fun k f=>fa rC z<|ld b 0 bv z z z<|ld b 1 bv z z z<|cc z z<|aj z<|nl<|f _ _ _<|wr<|?_
 refine have g:=Hp.pick 2 [1] b z;?_
 cases H
 exact rt ⟨_, _, z, z, z⟩ g
theorem kW {a1 b h i c m G L w} (H : cr a1 b = some m) (hI : Hp G (bx c [int .i64 b] 3 :: L) w) (V : a1.length ≤ i) (u : Dat aS G h a1) :
    Calls Tryz.prog 98 [slice h a1.length i, func (.func 99) [].toArray [pointer (some ⟨c, 0, none⟩)].toArray].toArray w fun e w' => Hp G (bx c [int .i64 b] 3 :: L) w' ∧ e = .returned (int .i64 m) := by
 refine ac (N := 19) Tryz.func98 z z (Nat.le_of_ble_eq_true z)<|?_
 unfold cr at H
 refine sr fun W x=>aj z<|nl<|x _ _ _<|sQ fun X y=>sr fun Y A=>mv z<|q_len vU z<|mv z<|nl<|A _ _ _<|wb<|bK H fun k hC H=>aq (Q := fun e r ds w => match (generalizing := false) k with | (Sum.inl n) => e = .ret ∧ ds = [] ∧ Has [(4, int .i64 n)] r ∧ Hp G (bx c [int .i64 b] 3 :: L) w ∧ True | (Sum.inr _) => e = .exit 0 ∧ ds = [] ∧ Has [] r ∧ Hp G (bx c [int .i64 b] 3 :: L) w ∧ True) ?_ ?_
 refine aB fun I t=>?_
 refine bd.partial_correctness a1 b (fun d o => ∀ (r : Rg) (w : World), Has [(0, slice h a1.length i), (1, func (.func 99) [].toArray [pointer (some ⟨c, 0, none⟩)].toArray), (7, int .i64 (a1.length : Int)), (8, int .i64 d)] r → Hp G (bx c [int .i64 b] 3 :: L) w → o = k → I r [] w) ?_ 0 _ hC _ _ ⟨rfl, rfl, rfl, rfl, tv⟩ hI rfl
 intro _ ih d o H r Z a l ho
 rw [ho] at H; clear ho
 rw [a.eq]; clear a
 refine t _ _ _<|sr fun aa B=>aN z z<|nl<|B _ _ _<|sQ fun ab C=>dC (d < (a1.length : Int)) (fun f=>?_) fun f=>?_
 refine yK f H fun H=>wt (bY f)<|ws<|C _ _ _<|sQ fun ad D=>wb<|sr fun af E=>mv z<|aj z<|nl<|E _ _ _<|sr fun ag F=>mv z<|mv z<|?_
 refine mv z<|iK H fun⟨p, q⟩H=>?_
 obtain ⟨ah, ai, J, K, ak, M⟩ := Dat.get u aG (d) p q
 obtain ⟨rfl⟩ := dU K
 refine bP p7 z J z p q<|ki l s0 z (cs := [int .i64 ((a1.getD (Int.toNat d) aG).At), bool ((a1.getD (Int.toNat d) aG).Hyphen)]) z (fun j v hv => gR.cel _ _ (M j v hv))<|bK H fun O P H=>cv bo99 (mP (a1 := (a1.getD (Int.toNat d) aG)) P l) z z fun al s=>nl<|F _ _ _<|dC (O = true) (fun g=>?_) fun g=>?_
 refine yK g H fun H=>wt (vY g)<|sr fun am R=>mv z<|aj z<|nl<|R _ _ _<|wr<|?_
 cases H
 exact ⟨z, z, ⟨z, tv⟩, s, tv⟩
 exact nK g H fun H=>wf (vN g)<|ws<|D _ _ _<|ae<|ba z z<|mv z<|nl<|ih _ _ H _ _ ⟨z, z, z, z, tv⟩ s z
 refine nK f H fun H=>wf (bN f)<|wx<|?_
 cases H
 exact ⟨z, z, trivial, l, tv⟩
 rcases k with n | _
 rintro e r ds an ⟨rfl, rfl, a, S, _⟩
 rw [a.eq]; clear a
 cases H
 exact rt ⟨_, _, z, z, z⟩ S
 rintro e r ds ao ⟨rfl, rfl, a, T, _⟩
 rw [a.eq]; clear a
 refine y _ _ _<|sr fun ap U=>aj z<|nl<|U _ _ _<|wr<|?_
 cases H
 exact rt ⟨_, _, z, z, z⟩ T
theorem kD {σ : Type} {St : σ → Gh → List eP → Prop} {yl} {φ : σ → (Int × ah) → Option (σ × Bool)} {sy : σ} {a c d f} {ry : σ} {G T w} (H : cd φ sy a = some ry) (hI : Hp G (bx c [slice d a.length f] 77 :: T) w) (ak : a.length ≤ f) (O : Dat aS G d a) (hy : Yl Tryz.prog φ (vi (enc1 (Kd.int .i64)) (encS aS)) St yl) (hS : St sy G T) :
    Calls Tryz.prog 132 [func (.yield yl) #[] #[], pointer (some ⟨c, 0, none⟩)].toArray w fun e w' => ∃ (T' : List eP) (G' : Gh), G ≤ G' ∧ Hp G' (bx c [slice d a.length f] 77 :: T') w' ∧ St ry G' T' ∧ e = .returned (tuple [].toArray) := by
 refine ac (N := 19) Tryz.func132 z z (Nat.le_of_ble_eq_true z)<|?_
 unfold cd at H
 refine sr fun K8 P=>ld hI 0 xF z z z<|q_len vU z<|dl z z<|aj z<|nl<|P _ _ _<|wb<|bK H fun u hC H=>?_
 refine aq (Q := fun e r ds w => match (generalizing := false) u with | (Sum.inl y) => e = .ret ∧ ∃ (k : List eP) (l : Gh), ds = [] ∧ G ≤ l ∧ Has [] r ∧ Hp l (bx c [slice d a.length f] 77 :: k) w ∧ St y l k ∧ True | (Sum.inr A) => e = .exit 0 ∧ ∃ (m : List eP) (n : Gh), ds = [] ∧ G ≤ n ∧ Has [] r ∧ Hp n (bx c [slice d a.length f] 77 :: m) w ∧ St A n m ∧ True) ?_ ?_
 refine aB fun I M=>?_
 refine aR.partial_correctness φ a (fun g B o => ∀ (p : List eP) (q : Gh) (r : Rg) (w : World), G ≤ q → Has [(0, func (.yield yl) #[] #[]), (1, pointer (some ⟨c, 0, none⟩)), (3, int .i64 g)] r → Hp q (bx c [slice d a.length f] 77 :: p) w → St B q p → o = u → I r [] w) ?_ (ax ((a.length : Int) - 1)) sy _ hC T _ _ _ gR ⟨rfl, rfl, rfl, tv⟩ hI hS rfl
 intro _ ih g B o H p q r am s b t C ho
 rw [ho] at H; clear ho
 rw [b.eq]; clear b
 refine M _ _ _<|sQ fun an R=>sr fun ao S=>mv z<|gM z z<|nl<|S _ _ _<|dC (0 ≤ g) (fun h=>?_) fun h=>?_
 refine yK h H fun H=>wt (bY h)<|ws<|R _ _ _<|sQ fun ap U=>wb<|sr fun ar V=>mv z<|mv z<|ld t 0 xF z z z<|mv z<|iK H fun⟨D, E⟩H=>?_
 obtain ⟨au, av, W, X, aw, Y⟩ := Dat.get (Dat.mono s O) aG (g) D E
 obtain ⟨rfl⟩ := dU X
 refine bP p7 z W z D E<|ki t s0 z (cs := [int .i64 ((a.getD (Int.toNat g) aG).At), bool ((a.getD (Int.toNat g) aG).Hyphen)]) z (fun j v hv => gR.cel _ _ (Y j v hv))<|iJ H fun ay Z hx64 H=>vP hy [bx c [slice d a.length f] 77] t C z z ⟨_, _, z, ⟨_, z, z⟩, ⟨_, z, (iD (x := (a.getD (Int.toNat g) aG)))⟩⟩ hx64 fun az aA F J K L=>be z<|nl<|V _ _ _<|dC ((!Z) = true) (fun i=>?_) fun i=>?_
 refine yK i H fun H=>wt (vY i)<|wr<|?_
 cases H
 exact ⟨z, F, _, z, (gT s J), trivial, L, K, tv⟩
 exact nK i H fun H=>wf (vN i)<|ws<|U _ _ _<|ae<|mv z<|dl z z<|aj z<|nl<|ih _ _ _ H F _ _ _ (gT s J) ⟨z, z, z, tv⟩ L K z
 refine nK h H fun H=>wf (bN h)<|wx<|?_
 cases H
 exact ⟨z, p, _, z, s, trivial, t, C, tv⟩
 rcases u with y | A
 rintro e r ds aC ⟨rfl, k, l, rfl, aa, b, ab, ad, _⟩
 rw [b.eq]; clear b
 cases H
 exact ⟨.inr z, z, _, z, k, _, aa, ab, ad, z⟩
 rintro e r ds aD ⟨rfl, m, n, rfl, af, b, ag, ai, _⟩
 rw [b.eq]; clear b
 cases H
 exact ⟨.inl z, z, _, z, m, _, af, ag, ai, z⟩
theorem oi {a1 a4 a b c d f g h i G L w} (H : fb a1 a4 a = some i) (hI : Hp G (bx b [slice c a4.Glyphs.length d, slice f a4.Kerns.length g] 25 :: bx h [int .i64 a] 3 :: L) w) (j : a4.Glyphs.length ≤ d) (k : Dat au G c a4.Glyphs) (l : a4.Kerns.length ≤ g) (m : Dat ay G f a4.Kerns) :
    Calls Tryz.prog 70 [string a1, pointer (some ⟨b, 0, none⟩), pointer (some ⟨h, 0, none⟩)].toArray w fun e w' => Hp G (bx b [slice c a4.Glyphs.length d, slice f a4.Kerns.length g] 25 :: bx h [int .i64 a] 3 :: L) w' ∧ e = .returned (int .i64 i) := by
 refine ac (N := 15) Tryz.func70 z z (Nat.le_of_ble_eq_true z)<|?_
 unfold fb at H
 refine sr fun s n=>aj z<|nl<|n _ _ _<|sr fun t o=>d9 hI 0 fw z z z z<|mv z<|ld hI 1 bv z z z<|iJ H fun u v p H=>cv E0 (pq p hI j k l m) z z fun x q=>mv z<|cK z z<|cK z z<|aj z<|?_
 refine aj z<|nl<|o _ _ _<|sr fun y r=>mv z<|aj z<|nl<|r _ _ _<|wr<|?_
 cases H
 exact rt ⟨_, _, z, z, z⟩ q
end Go.Proofs.YtaemgcpcfnbmdaaGreatDoor.LG
