/-
  The walks: each function computes its plain function: printed by a program out of the translation.
-/
import Derived.Test.YtlcfemplcaejgaaTy
set_option linter.unusedVariables false
set_option linter.unusedSimpArgs false
set_option maxRecDepth 100000
namespace Go.Proofs.Ytlcfemplcaejgaa.LG
open Go Go.LG Go.RowKit Go.Value
set_option maxHeartbeats 20000000
theorem aD {a1 b a3 c G L w} (H : ba a1 b a3 = some c) (hI : Hp G L w) :
    Calls Try.prog 36 [int .i64 a1, int .i64 b, int .i64 a3].toArray w fun e w' => Hp G L w' ∧ e = .returned (bool c) := by
 refine aw (N := 15) Try.func36 z z (Nat.le_of_ble_eq_true z)<|?_
 unfold ba at H
 refine sr fun i d=>aK z<|nl<|d _ _ _<|sr fun j f=>mv z<|mv z<|dq z z<|mv z<|bK H fun g hC H=>js 4 hI [(14, bool g)] ?_ fun _ k h=>?_
 refine have H:=hC;dC (b ≤ a1) (fun a=>?_) fun a=>?_
 refine yK a H fun H=>mv (hw:=gY z z z (bY a)) z<|mv (hw:=gY z z z (bY a)) z<|dq (hw:=gY z z z (bY a)) z z<|cY (bY a) z<|nl<|?_
 cases H
 exact je ⟨z, tv⟩ hI
 refine nK a H fun H=>Sk 3 z z (bN a) z<|dm (bN a) z<|nl<|?_
 cases H
 exact je ⟨z, tv⟩ hI
 refine aK z<|nl<|f _ _ _<|wr<|?_
 cases H
 exact rt ⟨_, _, z, z, z⟩ h
theorem ij {a1 f a3 g G L w} (H : ga a1 f a3 = some g) (hI : Hp G L w) :
    Calls Try.prog 63 [agg [int .i64 a1.Lo, int .i64 a1.Hi].toArray, int .i64 f, int .i64 a3].toArray w fun e w' => Hp G L w' ∧ e = .returned (bool g) := by
 refine aw (N := 24) Try.func63 z z (Nat.le_of_ble_eq_true z)<|?_
 unfold ga at H
 refine sr fun o i=>jW hI z z fun j p c=>aK z<|nl<|i _ _ _<|sr fun q k=>mv z<|fa m3 z<|ld c 0 bb z z z<|dq z z<|mv z<|bK H fun h hC H=>js 6 c [(2, int .i64 a3), (3, pointer (some ⟨j, 0, none⟩)), (17, bool h)] ?_ fun _ r d=>?_
 refine have H:=hC;dC (f ≤ a1.Lo) (fun a=>?_) fun a=>?_
 refine yK a H fun H=>fa (hw:=gY z z z (bY a)) m3 z<|ld (hw:=gY z z z (bY a)) c 0 bb z z z<|fa (hw:=gY z z z (bY a)) m6 z<|ld (hw:=gY z z z (bY a)) c 0 bb z z z<|dq (hw:=gY z z z (bY a)) z z<|cY (bY a) z<|nl<|?_
 cases H
 exact je ⟨z, z, z, tv⟩ c
 refine nK a H fun H=>Sk 5 z z (bN a) z<|dm (bN a) z<|nl<|?_
 cases H
 exact je ⟨z, z, z, tv⟩ c
 refine mv z<|bK H fun l hC H=>js 5 d [(23, bool l)] ?_ fun _ s m=>?_
 refine have H:=hC;dC (h = true) (fun b=>?_) fun b=>?_
 refine yK b H fun H=>fa (hw:=gY z z z (vY b)) m6 z<|ld (hw:=gY z z z (vY b)) d 0 bb z z z<|mv (hw:=gY z z z (vY b)) z<|dq (hw:=gY z z z (vY b)) z z<|cY (vY b) z<|nl<|?_
 cases H
 exact je ⟨z, tv⟩ d
 refine nK b H fun H=>Sk 4 z z (vN b) z<|dm (vN b) z<|nl<|?_
 cases H
 exact je ⟨z, tv⟩ d
 refine aK z<|nl<|k _ _ _<|wr<|have n:=Hp.pick 1 [] m z;?_
 cases H
 exact rt ⟨_, _, z, z, z⟩ n
theorem iO {a1 h G L w} (H : fT a1 = some h) (hI : Hp G L w) :
    Calls Try.prog 56 [agg [int .i64 a1.Lang, int .i64 a1.Scale.Lo, int .i64 a1.Scale.Hi, int .i64 a1.Width.Lo, int .i64 a1.Width.Hi].toArray].toArray w fun e w' => Hp G L w' ∧ e = .returned (bool h) := by
 refine aw (N := 21) Try.func56 z z (Nat.le_of_ble_eq_true z)<|?_
 unfold fT at H
 refine sr fun u l=>jW hI z z fun i v d=>aK z<|nl<|l _ _ _<|sr fun x m=>fa mT z<|ld d 0 bb z z z<|dq z z<|mv z<|bK H fun j hC H=>js 4 d [(1, pointer (some ⟨i, 0, none⟩)), (10, bool j)] ?_ fun _ y f=>?_
 refine have H:=hC;dC (0 ≤ a1.Lang) (fun a=>?_) fun a=>?_
 refine yK a H fun H=>fa (hw:=gY z z z (bY a)) mT z<|ld (hw:=gY z z z (bY a)) d 0 bb z z z<|cZ (hw:=gY z z z (bY a)) z z<|cY (bY a) z<|nl<|?_
 cases H
 exact je ⟨z, z, tv⟩ d
 refine nK a H fun H=>Sk 3 z z (bN a) z<|dm (bN a) z<|nl<|?_
 cases H
 exact je ⟨z, z, tv⟩ d
 refine mv z<|bK H fun k hC H=>js 4 f [(1, pointer (some ⟨i, 0, none⟩)), (15, bool k)] ?_ fun _ A g=>?_
 refine have H:=hC;dC (j = true) (fun b=>?_) fun b=>?_
 refine yK b H fun H=>fa (hw:=gY z z z (vY b)) oT z<|gg (hw:=gY z z z (vY b)) f 0 pw z z z z<|bK H fun B n H=>cv (hw:=gY z z z (vY b)) q6 (ij n f) z z fun C o=>cY (vY b) z<|nl<|?_
 cases H
 exact je ⟨z, z, tv⟩ o
 refine nK b H fun H=>Sk 3 z z (vN b) z<|dm (vN b) z<|nl<|?_
 cases H
 exact je ⟨z, z, tv⟩ f
 refine mv z<|bK H fun p hC H=>js 4 g [(20, bool p)] ?_ fun _ D q=>?_
 refine have H:=hC;dC (k = true) (fun c=>?_) fun c=>?_
 refine yK c H fun H=>fa (hw:=gY z z z (vY c)) oj z<|gg (hw:=gY z z z (vY c)) g 0 pw z z z z<|bK H fun E r H=>cv (hw:=gY z z z (vY c)) q6 (ij r g) z z fun F s=>cY (vY c) z<|nl<|?_
 cases H
 exact je ⟨z, tv⟩ s
 refine nK c H fun H=>Sk 3 z z (vN c) z<|dm (vN c) z<|nl<|?_
 cases H
 exact je ⟨z, tv⟩ g
 refine aK z<|nl<|m _ _ _<|wr<|have t:=Hp.pick 1 [] q z;?_
 cases H
 exact rt ⟨_, _, z, z, z⟩ t
theorem j9 {a1 a G L w} (H : gx a1 = some a) (hI : Hp G L w) :
    Calls Try.prog 62 [agg [int .i64 a1.Lang, int .i64 a1.Scale.Lo, int .i64 a1.Scale.Hi, int .i64 a1.Width.Lo, int .i64 a1.Width.Hi].toArray].toArray w fun e w' => Hp G L w' ∧ e = .returned (bool a) := by
 refine aw (N := 6) Try.func62 z z (Nat.le_of_ble_eq_true z)<|?_
 unfold gx at H
 refine sr fun i c=>jW hI z z fun j k b=>aK z<|nl<|c _ _ _<|sr fun l d=>gg b 0 oN z z z z<|bK H fun m f H=>cv qX (iO f b) z z fun n g=>bV z<|aK z<|nl<|d _ _ _<|wr<|?_
 refine have h:=Hp.pick 1 [] g z;?_
 cases H
 exact rt ⟨_, _, z, z, z⟩ h
theorem fv {a1 f g k G L w} (H : bA a1 = some k) (hI : Hp G L w) (T : a1.length ≤ g) (s : Dat e8 G f a1) :
    Calls Try.prog 64 [slice f a1.length g, func (.func 62) [].toArray [].toArray].toArray w fun e w' => Hp G L w' ∧ e = .returned (int .i64 k) := by
 refine aw (N := 19) Try.func64 z z (Nat.le_of_ble_eq_true z)<|?_
 unfold bA at H
 refine sr fun U t=>aK z<|nl<|t _ _ _<|sQ fun V u=>sr fun W x=>mv z<|q_len qg z<|mv z<|nl<|x _ _ _<|wb<|bK H fun h hC H=>aP (Q := fun e r ds w => match (generalizing := false) h with | (Sum.inl l) => e = .ret ∧ ds = [] ∧ Has [(4, int .i64 l)] r ∧ Hp G (L) w ∧ True | (Sum.inr _) => e = .exit 0 ∧ ds = [] ∧ Has [] r ∧ Hp G (L) w ∧ True) ?_ ?_
 refine bH fun I q=>?_
 refine aN.partial_correctness a1 (fun a o => ∀ (r : Rg) (w : World), Has [(0, slice f a1.length g), (1, func (.func 62) [].toArray [].toArray), (7, int .i64 (a1.length : Int)), (8, int .i64 a)] r → Hp G (L) w → o = h → I r [] w) ?_ 0 _ hC _ _ ⟨rfl, rfl, rfl, rfl, tv⟩ hI rfl
 intro _ ih a o H r X b i ho
 rw [ho] at H; clear ho
 rw [b.eq]; clear b
 refine q _ _ _<|sr fun Y y=>cZ z z<|nl<|y _ _ _<|sQ fun Z A=>dC (a < (a1.length : Int)) (fun c=>?_) fun c=>?_
 refine yK c H fun H=>wt (bY c)<|ws<|A _ _ _<|sQ fun aa B=>wb<|sr fun ab C=>mv z<|aK z<|nl<|C _ _ _<|sr fun ac D=>mv z<|mv z<|?_
 refine mv z<|iK H fun⟨m, n⟩H=>?_
 obtain ⟨ad, ae, E, F, af, J⟩ := Dat.get s bW (a) m n
 obtain ⟨rfl⟩ := jG F
 refine bL rc z E z m n<|fq i oN z (cs := [int .i64 ((a1.getD (Int.toNat a) bW).Lang), int .i64 ((a1.getD (Int.toNat a) bW).Scale.Lo), int .i64 ((a1.getD (Int.toNat a) bW).Scale.Hi), int .i64 ((a1.getD (Int.toNat a) bW).Width.Lo), int .i64 ((a1.getD (Int.toNat a) bW).Width.Hi)]) z (fun j v hv => gR.cel _ _ (J j v hv))<|bK H fun K M H=>cv bo62 (j9 (a1 := (a1.getD (Int.toNat a) bW)) M i) z z fun ag p=>nl<|D _ _ _<|dC (K = true) (fun d=>?_) fun d=>?_
 refine yK d H fun H=>wt (vY d)<|sr fun ah O=>mv z<|aK z<|nl<|O _ _ _<|wr<|?_
 cases H
 exact ⟨z, z, ⟨z, tv⟩, p, tv⟩
 exact nK d H fun H=>wf (vN d)<|ws<|B _ _ _<|aA<|bm z z<|mv z<|nl<|ih _ _ H _ _ ⟨z, z, z, z, tv⟩ p z
 refine nK c H fun H=>wf (bN c)<|wx<|?_
 cases H
 exact ⟨z, z, trivial, i, tv⟩
 rcases h with l | _
 rintro e r ds ai ⟨rfl, rfl, b, P, _⟩
 rw [b.eq]; clear b
 cases H
 exact rt ⟨_, _, z, z, z⟩ P
 rintro e r ds aj ⟨rfl, rfl, b, R, _⟩
 rw [b.eq]; clear b
 refine u _ _ _<|sr fun ak S=>aK z<|nl<|S _ _ _<|wr<|?_
 cases H
 exact rt ⟨_, _, z, z, z⟩ R
theorem eU {a1 a b c G L w} (H : aY a1 = some c) (hI : Hp G L w) (d : a1.length ≤ b) (f : Dat e8 G a a1) :
    Calls Try.prog 58 [slice a a1.length b, func (.func 62) [].toArray [].toArray].toArray w fun e w' => Hp G L w' ∧ e = .returned (bool c) := by
 refine aw (N := 9) Try.func58 z z (Nat.le_of_ble_eq_true z)<|?_
 unfold aY at H
 refine sr fun k g=>aK z<|nl<|g _ _ _<|sr fun l h=>mv z<|mv z<|bK H fun m i H=>cv qK (fv i hI d f) z z fun n j=>gS z z<|aK z<|nl<|h _ _ _<|wr<|?_
 cases H
 exact rt ⟨_, _, z, z, z⟩ j
theorem kB {a1 b c d G L w} (H : fh a1 = some d) (hI : Hp G L w) (f : a1.length ≤ c) (g : Dat e8 G b a1) :
    Calls Try.prog 55 [slice b a1.length c].toArray w fun e w' => Hp G L w' ∧ e = .returned (bool d) := by
 refine aw (N := 11) Try.func55 z z (Nat.le_of_ble_eq_true z)<|?_
 unfold fh at H
 refine sr fun n h=>aK z<|nl<|h _ _ _<|sr fun o i=>mv z<|q_len qg z<|dq z z<|mv z<|bK H fun j hC H=>js 4 hI [(10, bool j)] ?_ fun _ p k=>?_
 refine have H:=hC;dC ((a1.length : Int) ≤ 1000) (fun a=>?_) fun a=>?_
 refine yK a H fun H=>mv (hw:=gY z z z (bY a)) z<|bK H fun q l H=>cv (hw:=gY z z z (bY a)) qB (eU l hI f g) z z fun r m=>bV (hw:=gY z z z (bY a)) z<|cY (bY a) z<|nl<|?_
 cases H
 exact je ⟨z, tv⟩ m
 refine nK a H fun H=>Sk 3 z z (bN a) z<|dm (bN a) z<|nl<|?_
 cases H
 exact je ⟨z, tv⟩ hI
 refine aK z<|nl<|i _ _ _<|wr<|?_
 cases H
 exact rt ⟨_, _, z, z, z⟩ k
theorem lh {a1 a G L w} (H : i5 a1 = some a) (hI : Hp G L w) :
    Calls Try.prog 57 [agg [int .i64 a1.Width, int .i64 a1.Scale, int .i64 a1.Lang].toArray].toArray w fun e w' => Hp G L w' ∧ e = .returned (agg [int .i64 a.Lang, int .i64 a.Scale.Lo, int .i64 a.Scale.Hi, int .i64 a.Width.Lo, int .i64 a.Width.Hi].toArray) := by
 refine aw (N := 16) Try.func57 z z (Nat.le_of_ble_eq_true z)<|?_
 unfold i5 at H
 refine sr fun l d=>jW hI z z fun m n f=>bQ f qu fun h p b=>nl<|d _ _ _<|sr fun q i=>fa lL z<|ld b 1 bb z z z<|fa kU z<|ld b 1 bb z z z<|fa kU z<|ld b 1 bb z z z<|cf (vs := [(0, int .i64 a1.Scale), (1, int .i64 a1.Scale)]) (cs := [int .i64 a1.Scale, int .i64 a1.Scale]) q8 qE z z<|fa kV z<|?_
 refine ld b 1 bb z z z<|fa kV z<|ld b 1 bb z z z<|cf (vs := [(0, int .i64 a1.Width), (1, int .i64 a1.Width)]) (cs := [int .i64 a1.Width, int .i64 a1.Width]) q8 qE z z<|cf (vs := [(0, int .i64 a1.Lang), (1, agg [int .i64 a1.Scale, int .i64 a1.Scale].toArray), (2, agg [int .i64 a1.Width, int .i64 a1.Width].toArray)]) (cs := [int .i64 a1.Lang, int .i64 a1.Scale, int .i64 a1.Scale, int .i64 a1.Width, int .i64 a1.Width]) qu pl99 z z<|f5 b 0 oN z z z z z z z fun r c=>nl<|i _ _ _<|wr<|have j:=gA (P := Try.prog) c 0 (cs := [int .i64 a1.Lang, int .i64 a1.Scale, int .i64 a1.Scale, int .i64 a1.Width, int .i64 a1.Width]) (g := h) (o := 0) oN z z z;have k:=Hp.pick 2 [] c z;?_
 cases H
 exact rt ⟨_, _, _, z, z, j, z⟩ k
theorem jE {a1 c d G L w} (H : j3 a1 c = some d) (hI : Hp G L w) :
    Calls Try.prog 60 [agg [int .i64 a1.Lo, int .i64 a1.Hi].toArray, int .i64 c].toArray w fun e w' => Hp G L w' ∧ e = .returned (bool d) := by
 refine aw (N := 15) Try.func60 z z (Nat.le_of_ble_eq_true z)<|?_
 unfold j3 at H
 refine sr fun k f=>jW hI z z fun l m b=>aK z<|nl<|f _ _ _<|sr fun n g=>fa m3 z<|ld b 0 bb z z z<|mv z<|dq z z<|mv z<|bK H fun h hC H=>js 5 b [(14, bool h)] ?_ fun _ o i=>?_
 refine have H:=hC;dC (a1.Lo ≤ c) (fun a=>?_) fun a=>?_
 refine yK a H fun H=>mv (hw:=gY z z z (bY a)) z<|fa (hw:=gY z z z (bY a)) m6 z<|ld (hw:=gY z z z (bY a)) b 0 bb z z z<|dq (hw:=gY z z z (bY a)) z z<|cY (bY a) z<|nl<|?_
 cases H
 exact je ⟨z, tv⟩ b
 refine nK a H fun H=>Sk 4 z z (bN a) z<|dm (bN a) z<|nl<|?_
 cases H
 exact je ⟨z, tv⟩ b
 refine aK z<|nl<|g _ _ _<|wr<|have j:=Hp.pick 1 [] i z;?_
 cases H
 exact rt ⟨_, _, z, z, z⟩ j
theorem jU {a1 c g h G L w} (H : f7 a1 c = some h) (hI : Hp G (bx g [int .i64 c.Width, int .i64 c.Scale, int .i64 c.Lang] 77 :: L) w) :
    Calls Try.prog 59 [agg [int .i64 a1.Lang, int .i64 a1.Scale.Lo, int .i64 a1.Scale.Hi, int .i64 a1.Width.Lo, int .i64 a1.Width.Hi].toArray, pointer (some ⟨g, 0, none⟩)].toArray w fun e w' => Hp G (bx g [int .i64 c.Width, int .i64 c.Scale, int .i64 c.Lang] 77 :: L) w' ∧ e = .returned (bool h) := by
 refine aw (N := 23) Try.func59 z z (Nat.le_of_ble_eq_true z)<|?_
 unfold f7 at H
 refine sr fun t j=>jW hI z z fun k u d=>aK z<|nl<|j _ _ _<|sr fun v l=>fa mT z<|ld d 0 bb z z z<|fa lL z<|ld d 1 bb z z z<|ei z z<|mv z<|bK H fun i hC H=>js 6 d [(1, pointer (some ⟨g, 0, none⟩)), (2, pointer (some ⟨k, 0, none⟩)), (15, bool i)] ?_ fun _ x f=>?_
 refine have H:=hC;dC (a1.Lang = c.Lang) (fun a=>?_) fun a=>?_
 refine yK a H fun H=>fa (hw:=gY z z z (bY a)) oT z<|gg (hw:=gY z z z (bY a)) d 0 pw z z z z<|fa (hw:=gY z z z (bY a)) kU z<|ld (hw:=gY z z z (bY a)) d 1 bb z z z<|bK H fun y m H=>cv (hw:=gY z z z (bY a)) qD (jE m d) z z fun A n=>cY (bY a) z<|nl<|?_
 cases H
 exact je ⟨z, z, z, tv⟩ n
 refine nK a H fun H=>Sk 5 z z (bN a) z<|dm (bN a) z<|nl<|?_
 cases H
 exact je ⟨z, z, z, tv⟩ d
 refine mv z<|bK H fun o hC H=>js 6 f [(22, bool o)] ?_ fun _ B p=>?_
 refine have H:=hC;dC (i = true) (fun b=>?_) fun b=>?_
 refine yK b H fun H=>fa (hw:=gY z z z (vY b)) oj z<|gg (hw:=gY z z z (vY b)) f 0 pw z z z z<|fa (hw:=gY z z z (vY b)) kV z<|ld (hw:=gY z z z (vY b)) f 1 bb z z z<|bK H fun C q H=>cv (hw:=gY z z z (vY b)) qD (jE q f) z z fun D r=>cY (vY b) z<|nl<|?_
 cases H
 exact je ⟨z, tv⟩ r
 refine nK b H fun H=>Sk 5 z z (vN b) z<|dm (vN b) z<|nl<|?_
 cases H
 exact je ⟨z, tv⟩ f
 refine aK z<|nl<|l _ _ _<|wr<|have s:=Hp.pick 2 [1] p z;?_
 cases H
 exact rt ⟨_, _, z, z, z⟩ s
theorem fw {a1 a h i d m G L w} (H : bz a1 a = some m) (hI : Hp G (bx d [int .i64 a.Width, int .i64 a.Scale, int .i64 a.Lang] 77 :: L) w) (V : a1.length ≤ i) (u : Dat e8 G h a1) :
    Calls Try.prog 64 [slice h a1.length i, func (.func 59) [].toArray [pointer (some ⟨d, 0, none⟩)].toArray].toArray w fun e w' => Hp G (bx d [int .i64 a.Width, int .i64 a.Scale, int .i64 a.Lang] 77 :: L) w' ∧ e = .returned (int .i64 m) := by
 refine aw (N := 19) Try.func64 z z (Nat.le_of_ble_eq_true z)<|?_
 unfold bz at H
 refine sr fun W x=>aK z<|nl<|x _ _ _<|sQ fun X y=>sr fun Y A=>mv z<|q_len qg z<|mv z<|nl<|A _ _ _<|wb<|bK H fun k hC H=>?_
 refine aP (Q := fun e r ds w => match (generalizing := false) k with | (Sum.inl n) => e = .ret ∧ ds = [] ∧ Has [(4, int .i64 n)] r ∧ Hp G (bx d [int .i64 a.Width, int .i64 a.Scale, int .i64 a.Lang] 77 :: L) w ∧ True | (Sum.inr _) => e = .exit 0 ∧ ds = [] ∧ Has [] r ∧ Hp G (bx d [int .i64 a.Width, int .i64 a.Scale, int .i64 a.Lang] 77 :: L) w ∧ True) ?_ ?_
 refine bH fun I t=>?_
 refine aO.partial_correctness a1 a (fun b o => ∀ (r : Rg) (w : World), Has [(0, slice h a1.length i), (1, func (.func 59) [].toArray [pointer (some ⟨d, 0, none⟩)].toArray), (7, int .i64 (a1.length : Int)), (8, int .i64 b)] r → Hp G (bx d [int .i64 a.Width, int .i64 a.Scale, int .i64 a.Lang] 77 :: L) w → o = k → I r [] w) ?_ 0 _ hC _ _ ⟨rfl, rfl, rfl, rfl, tv⟩ hI rfl
 intro _ ih b o H r Z c l ho
 rw [ho] at H; clear ho
 rw [c.eq]; clear c
 refine t _ _ _<|sr fun aa B=>cZ z z<|nl<|B _ _ _<|sQ fun ab C=>dC (b < (a1.length : Int)) (fun f=>?_) fun f=>?_
 refine yK f H fun H=>wt (bY f)<|ws<|C _ _ _<|sQ fun ac D=>wb<|sr fun ad E=>mv z<|aK z<|nl<|E _ _ _<|sr fun ae F=>mv z<|mv z<|?_
 refine mv z<|iK H fun⟨p, q⟩H=>?_
 obtain ⟨af, ag, J, K, ah, M⟩ := Dat.get u bW (b) p q
 obtain ⟨rfl⟩ := jG K
 refine bL rc z J z p q<|fq l oN z (cs := [int .i64 ((a1.getD (Int.toNat b) bW).Lang), int .i64 ((a1.getD (Int.toNat b) bW).Scale.Lo), int .i64 ((a1.getD (Int.toNat b) bW).Scale.Hi), int .i64 ((a1.getD (Int.toNat b) bW).Width.Lo), int .i64 ((a1.getD (Int.toNat b) bW).Width.Hi)]) z (fun j v hv => gR.cel _ _ (M j v hv))<|bK H fun O P H=>cv bo59 (jU (a1 := (a1.getD (Int.toNat b) bW)) P l) z z fun ai s=>nl<|F _ _ _<|dC (O = true) (fun g=>?_) fun g=>?_
 refine yK g H fun H=>wt (vY g)<|sr fun aj R=>mv z<|aK z<|nl<|R _ _ _<|wr<|?_
 cases H
 exact ⟨z, z, ⟨z, tv⟩, s, tv⟩
 exact nK g H fun H=>wf (vN g)<|ws<|D _ _ _<|aA<|bm z z<|mv z<|nl<|ih _ _ H _ _ ⟨z, z, z, z, tv⟩ s z
 refine nK f H fun H=>wf (bN f)<|wx<|?_
 cases H
 exact ⟨z, z, trivial, l, tv⟩
 rcases k with n | _
 rintro e r ds ak ⟨rfl, rfl, c, S, _⟩
 rw [c.eq]; clear c
 cases H
 exact rt ⟨_, _, z, z, z⟩ S
 rintro e r ds al ⟨rfl, rfl, c, T, _⟩
 rw [c.eq]; clear c
 refine y _ _ _<|sr fun am U=>aK z<|nl<|U _ _ _<|wr<|?_
 cases H
 exact rt ⟨_, _, z, z, z⟩ T
theorem eW {a1 a c d b f G L w} (H : aQ a1 a = some f) (hI : Hp G (bx b [int .i64 a.Width, int .i64 a.Scale, int .i64 a.Lang] 77 :: L) w) (g : a1.length ≤ d) (h : Dat e8 G c a1) :
    Calls Try.prog 58 [slice c a1.length d, func (.func 59) [].toArray [pointer (some ⟨b, 0, none⟩)].toArray].toArray w fun e w' => Hp G (bx b [int .i64 a.Width, int .i64 a.Scale, int .i64 a.Lang] 77 :: L) w' ∧ e = .returned (bool f) := by
 refine aw (N := 9) Try.func58 z z (Nat.le_of_ble_eq_true z)<|?_
 unfold aQ at H
 refine sr fun m i=>aK z<|nl<|i _ _ _<|sr fun n j=>mv z<|mv z<|bK H fun o k H=>cv qK (fw k hI g h) z z fun p l=>gS z z<|aK z<|nl<|j _ _ _<|wr<|?_
 cases H
 exact rt ⟨_, _, z, z, z⟩ l
theorem k7 {a1 a6 d f g h G L w} (H : ip a1 a6 = some (g, h)) (hI : Hp G L w) (i : a1.length ≤ f) (j : Dat e8 G d a1) :
    Calls Try.prog 50 [slice d a1.length f, agg [int .i64 a6.Width, int .i64 a6.Scale, int .i64 a6.Lang].toArray].toArray w fun e w' => Hp G L w' ∧ e = .returned (tuple [bool g, int .i64 h].toArray) := by
 refine aw (N := 18) Try.func50 z z (Nat.le_of_ble_eq_true z)<|?_
 unfold ip at H
 refine sr fun F n=>jW hI z z fun k I o=>aK z<|aK z<|nl<|n _ _ _<|sQ fun J p=>sr fun K q=>mv z<|bK H fun r s H=>cv bo55 (kB s o i j) z z fun M c=>bV z<|mv z<|bK H fun l hC H=>?_
 refine js 5 c [(0, slice d a1.length f), (3, pointer (some ⟨k, 0, none⟩)), (14, bool l)] ?_ fun _ O m=>?_
 refine have H:=hC;dC ((!r) = true) (fun a=>?_) fun a=>?_
 refine yK a H fun H=>Sk 4 z z (vY a) z<|cY (vY a) z<|nl<|?_
 cases H
 exact je ⟨z, z, z, tv⟩ c
 refine nK a H fun H=>gg (hw:=gY z z z (vN a)) c 0 nQ z z z z<|bK H fun P t H=>cv (hw:=gY z z z (vN a)) bo57 (lh t c) z z fun Q u=>bK H fun R v H=>cv (hw:=gY z z z (vN a)) qX (iO v u) z z fun S x=>bV (hw:=gY z z z (vN a)) z<|dm (vN a) z<|nl<|?_
 cases H
 exact je ⟨z, z, z, tv⟩ x
 refine nl<|q _ _ _<|dC (l = true) (fun b=>?_) fun b=>?_
 refine yK b H fun H=>wt (vY b)<|sr fun T y=>aK z<|aK z<|nl<|y _ _ _<|wr<|have A:=Hp.pick 1 [] m z;?_
 cases H
 exact rt ⟨_, _, z, z, ⟨_, _, z, z, z⟩⟩ A
 refine nK b H fun H=>wf (vN b)<|ws<|p _ _ _<|sr fun U B=>mv z<|py (vs := []) (us := [pointer (some ⟨k, 0, none⟩)]) z z<|bK H fun V C H=>cv qB (eW C m i j) z z fun W D=>aK z<|aK z<|nl<|B _ _ _<|wr<|?_
 refine have E:=Hp.pick 1 [] D z;?_
 cases H
 exact rt ⟨_, _, z, z, ⟨_, _, z, z, z⟩⟩ E
theorem jx {a1 a G L w} (H : dT a1 = some a) (hI : Hp G L w) :
    Calls Try.prog 37 [agg [int .i64 a1.Width, int .i64 a1.Scale, int .i64 a1.Lang].toArray].toArray w fun e w' => Hp G L w' ∧ e = .returned (bool a) := by
 refine aw (N := 12) Try.func37 z z (Nat.le_of_ble_eq_true z)<|?_
 unfold dT at H
 refine sr fun j c=>jW hI z z fun k l b=>aK z<|nl<|c _ _ _<|sr fun m d=>gg b 0 nQ z z z z<|ms H fun n o f H=>cv bo50 (k7 (a1 := ([] : List bG)) f b (show ([] : List bG).length ≤ 0 from Nat.le_refl 0) (Dat.nil _ _ _)) z z fun p g=>mv z<|ls z z<|ls z z<|aK z<|aK z<|?_
 refine nl<|d _ _ _<|sr fun q h=>mv z<|ei z z<|aK z<|nl<|h _ _ _<|wr<|have i:=Hp.pick 1 [] g z;?_
 cases H
 exact rt ⟨_, _, z, z, z⟩ i
theorem fo {a1 : aX} {b G L w} (H : cu a1 = some b) (hI : Hp G L w) :
    Calls Try.prog 51 [agg [int .i64 a1.Paper.Width, int .i64 a1.Paper.Height, int .i64 a1.Paper.Columns, int .i64 a1.Paper.Gap, int .i64 a1.Paper.Scale, int .i64 a1.Paper.Lang].toArray].toArray w fun e w' => Hp G L w' ∧ e = .returned (int .i64 b) := by
 refine aw (N := 20) Try.func51 z z (Nat.le_of_ble_eq_true z)<|?_
 unfold cu at H
 refine sr fun h c=>jW hI z z fun i j a=>aK z<|nl<|c _ _ _<|sr fun k d=>fa ee z<|fa ma z<|ld a 0 bb z z z<|fa ee z<|fa kI z<|ld a 0 bb z z z<|fa ee z<|fa jn z<|?_
 refine ld a 0 bb z z z<|b6 z z<|nB z z<|b6 z z<|fa ee z<|fa jn z<|ld a 0 bb z z z<|iK H fun f H=>pM z z f<|dR z z<|aK z<|nl<|d _ _ _<|wr<|?_
 refine have g:=Hp.pick 1 [] a z;?_
 cases H
 exact rt ⟨_, _, z, z, z⟩ g
theorem ig {a1 : aX} {s G L w} (H : du a1 = some s) (hI : Hp G L w) :
    Calls Try.prog 38 [agg [int .i64 a1.Paper.Width, int .i64 a1.Paper.Height, int .i64 a1.Paper.Columns, int .i64 a1.Paper.Gap, int .i64 a1.Paper.Scale, int .i64 a1.Paper.Lang].toArray].toArray w fun e w' => Hp G L w' ∧ e = .returned (agg [int .i64 s.Width, int .i64 s.Scale, int .i64 s.Lang].toArray) := by
 refine aw (N := 12) Try.func38 z z (Nat.le_of_ble_eq_true z)<|?_
 unfold du at H
 refine sr fun I u=>jW hI z z fun l J v=>bQ v pG fun q K x=>nl<|u _ _ _<|sQ fun M y=>bK H fun p A H=>?_
 refine aM [0, 1, 0, 4, 12, 0, 32, 96, 255, 511] (fun D r w => (D 9 = false ∧ ∃ (G' : Gh), G ≤ G' ∧ ag [(1, pointer (some ⟨l, 0, none⟩)), (2, pointer (some ⟨q, 0, none⟩))] [] [(0, 3, agg [int .i64 a1.Paper.Width, int .i64 a1.Paper.Height, int .i64 a1.Paper.Columns, int .i64 a1.Paper.Gap, int .i64 a1.Paper.Scale, int .i64 a1.Paper.Lang].toArray), (1, 4, int .i64 p), (2, 5, pointer (some ⟨l, 0, none⟩)), (3, 6, pointer (some ⟨l, 4, none⟩)), (4, 7, int .i64 a1.Paper.Scale), (5, 8, pointer (some ⟨l, 0, none⟩)), (6, 9, pointer (some ⟨l, 5, none⟩)), (7, 10, int .i64 a1.Paper.Lang), (8, 11, agg [int .i64 p, int .i64 a1.Paper.Scale, int .i64 a1.Paper.Lang].toArray)] D r ∧ Hp G' (bx q [int .i64 0, int .i64 0, int .i64 0] 77 :: bx l [int .i64 a1.Paper.Width, int .i64 a1.Paper.Height, int .i64 a1.Paper.Columns, int .i64 a1.Paper.Gap, int .i64 a1.Paper.Scale, int .i64 a1.Paper.Lang] 56 :: L) w) ∨ (D 9 = true ∧ ∃ (G' : Gh), G ≤ G' ∧ ag [(1, pointer (some ⟨l, 0, none⟩)), (2, pointer (some ⟨q, 0, none⟩))] [] [(0, 3, agg [int .i64 a1.Paper.Width, int .i64 a1.Paper.Height, int .i64 a1.Paper.Columns, int .i64 a1.Paper.Gap, int .i64 a1.Paper.Scale, int .i64 a1.Paper.Lang].toArray), (1, 4, int .i64 p), (2, 5, pointer (some ⟨l, 0, none⟩)), (3, 6, pointer (some ⟨l, 4, none⟩)), (4, 7, int .i64 a1.Paper.Scale), (5, 8, pointer (some ⟨l, 0, none⟩)), (6, 9, pointer (some ⟨l, 5, none⟩)), (7, 10, int .i64 a1.Paper.Lang), (8, 11, agg [int .i64 p, int .i64 a1.Paper.Scale, int .i64 a1.Paper.Lang].toArray)] D r ∧ Hp G' (bx q [int .i64 p, int .i64 a1.Paper.Scale, int .i64 a1.Paper.Lang] 77 :: bx l [int .i64 a1.Paper.Width, int .i64 a1.Paper.Height, int .i64 a1.Paper.Columns, int .i64 a1.Paper.Gap, int .i64 a1.Paper.Scale, int .i64 a1.Paper.Lang] 56 :: L) w)) dJ z z ?_ ?_ ?_
 exact (.inl ⟨z, _, Gh.le_refl _, ag.start ⟨z, z, tv⟩ trivial, x.drew⟩)
 refine ⟨?_, ?_, ?_, ?_, ?_, ?_, ?_, ?_, ?_, ?_, tv⟩
 rintro D r m (⟨f, d, c, a, b⟩ | ⟨h, d, c, a, b⟩) i j k
 obtain ⟨n, rfl⟩ := Has.ex (cC (a.ins.get 0 rfl) cN)
 exact gg b 1 px z z z z<|nl ⟨z, (.inl ⟨f, _, c, (ag.step a i z z z z), b⟩)⟩
 cases (k 9 rfl).symm.trans h
 rintro D r m (⟨f, d, c, a, b⟩ | ⟨h, d, c, a, b⟩) i j k
 obtain ⟨n, rfl⟩ := Has.ex (cC (a.get 0 rfl (j 0 rfl)) cN)
 exact cv q9 (fo A b) z z fun O B=>nl ⟨z, (.inl ⟨f, _, c, (ag.step a i z z z z), B⟩)⟩
 cases (k 9 rfl).symm.trans h
 rintro D r m (⟨f, d, c, a, b⟩ | ⟨h, d, c, a, b⟩) i j k
 obtain ⟨n, rfl⟩ := Has.ex (cC (a.ins.get 0 rfl) cN)
 exact fa ee z<|nl ⟨z, (.inl ⟨f, _, c, (ag.step a i z z z z), b⟩)⟩
 cases (k 9 rfl).symm.trans h
 rintro D r m (⟨f, d, c, a, b⟩ | ⟨h, d, c, a, b⟩) i j k
 obtain ⟨n, rfl⟩ := Has.ex (cC (a.get 2 rfl (j 2 rfl)) cN)
 exact fa pd z<|nl ⟨z, (.inl ⟨f, _, c, (ag.step a i z z z z), b⟩)⟩
 cases (k 9 rfl).symm.trans h
 rintro D r m (⟨f, d, c, a, b⟩ | ⟨h, d, c, a, b⟩) i j k
 obtain ⟨n, rfl⟩ := Has.ex (cC (a.get 3 rfl (j 3 rfl)) cN)
 exact ld b 1 bb z z z<|nl ⟨z, (.inl ⟨f, _, c, (ag.step a i z z z z), b⟩)⟩
 cases (k 9 rfl).symm.trans h
 rintro D r m (⟨f, d, c, a, b⟩ | ⟨h, d, c, a, b⟩) i j k
 obtain ⟨n, rfl⟩ := Has.ex (cC (a.ins.get 0 rfl) cN)
 exact fa ee z<|nl ⟨z, (.inl ⟨f, _, c, (ag.step a i z z z z), b⟩)⟩
 cases (k 9 rfl).symm.trans h
 rintro D r m (⟨f, d, c, a, b⟩ | ⟨h, d, c, a, b⟩) i j k
 obtain ⟨n, rfl⟩ := Has.ex (cC (a.get 5 rfl (j 5 rfl)) cN)
 exact fa oZ z<|nl ⟨z, (.inl ⟨f, _, c, (ag.step a i z z z z), b⟩)⟩
 cases (k 9 rfl).symm.trans h
 rintro D r m (⟨f, d, c, a, b⟩ | ⟨h, d, c, a, b⟩) i j k
 obtain ⟨n, rfl⟩ := Has.ex (cC (a.get 6 rfl (j 6 rfl)) cN)
 exact ld b 1 bb z z z<|nl ⟨z, (.inl ⟨f, _, c, (ag.step a i z z z z), b⟩)⟩
 cases (k 9 rfl).symm.trans h
 rintro D r m (⟨f, d, c, a, b⟩ | ⟨h, d, c, a, b⟩) i j k
 obtain ⟨n, rfl⟩ := Has.ex (cC (a.get 1 rfl (j 1 rfl)) (cC (a.get 4 rfl (j 4 rfl)) (cC (a.get 7 rfl (j 7 rfl)) cN)))
 exact cf (vs := [(0, int .i64 p), (1, int .i64 a1.Paper.Scale), (2, int .i64 a1.Paper.Lang)]) (cs := [int .i64 p, int .i64 a1.Paper.Scale, int .i64 a1.Paper.Lang]) pG qs z z<|nl ⟨z, (.inl ⟨f, _, c, (ag.step a i z z z z), b⟩)⟩
 cases (k 9 rfl).symm.trans h
 rintro D r m (⟨f, d, c, a, b⟩ | ⟨h, d, c, a, b⟩) i j k
 obtain ⟨n, rfl⟩ := Has.ex (cC (a.ins.get 1 rfl) (cC (a.get 8 rfl (j 8 rfl)) cN))
 exact f5 b 0 nQ z z z z z z z fun Q C=>nl ⟨z, (.inr ⟨z, _, c, (ag.stepN a z z), C⟩)⟩
 cases i.symm.trans h
 intro D r m t hR
 rcases hR with ⟨f, d, c, a, b⟩ | ⟨h, d, c, a, b⟩
 cases (t 9 (Nat.le_of_ble_eq_true rfl)).symm.trans f
 obtain ⟨n, rfl⟩ := Has.ex (cC (a.ins.get 1 rfl) cN)
 refine y _ _ _<|wr<|have E:=gA (P := Try.prog) b 0 (cs := [int .i64 p, int .i64 a1.Paper.Scale, int .i64 a1.Paper.Lang]) (g := q) (o := 0) nQ z z z;have F:=Hp.pick 2 [] b z;?_
 cases H
 exact rt ⟨_, _, _, z, z, E, z⟩ (Hp.low c F)
theorem iH {a1 : aX} {k G L w} (H : cH a1 = some k) (hI : Hp G L w) :
    Calls Try.prog 20 [agg [int .i64 a1.Paper.Width, int .i64 a1.Paper.Height, int .i64 a1.Paper.Columns, int .i64 a1.Paper.Gap, int .i64 a1.Paper.Scale, int .i64 a1.Paper.Lang].toArray].toArray w fun e w' => Hp G L w' ∧ e = .returned (bool k) := by
 refine aw (N := 30) Try.func20 z z (Nat.le_of_ble_eq_true z)<|?_
 unfold cH at H
 refine sr fun K p=>jW hI z z fun j M l=>aK z<|nl<|p _ _ _<|sr fun O q=>fa ee z<|fa jn z<|ld l 0 bb z z z<|bK H fun r s H=>cv gM (aD s l) z z fun P f=>mv z<|bK H fun m hC H=>js 5 f [(1, pointer (some ⟨j, 0, none⟩)), (12, bool m)] ?_ fun _ Q g=>?_
 refine have H:=hC;dC (r = true) (fun a=>?_) fun a=>?_
 refine yK a H fun H=>fa (hw:=gY z z z (vY a)) ee z<|fa (hw:=gY z z z (vY a)) kI z<|ld (hw:=gY z z z (vY a)) f 0 bb z z z<|bK H fun R t H=>cv (hw:=gY z z z (vY a)) gM (aD t f) z z fun S u=>cY (vY a) z<|nl<|?_
 cases H
 exact je ⟨z, z, tv⟩ u
 refine nK a H fun H=>Sk 4 z z (vN a) z<|dm (vN a) z<|nl<|?_
 cases H
 exact je ⟨z, z, tv⟩ f
 refine mv z<|bK H fun n hC H=>js 5 g [(1, pointer (some ⟨j, 0, none⟩)), (18, bool n)] ?_ fun _ T h=>?_
 refine have H:=hC;dC (m = true) (fun b=>?_) fun b=>?_
 refine yK b H fun H=>fa (hw:=gY z z z (vY b)) ee z<|fa (hw:=gY z z z (vY b)) ma z<|ld (hw:=gY z z z (vY b)) g 0 bb z z z<|bK H fun U v H=>cv (hw:=gY z z z (vY b)) gM (aD v g) z z fun V x=>cY (vY b) z<|nl<|?_
 cases H
 exact je ⟨z, z, tv⟩ x
 refine nK b H fun H=>Sk 4 z z (vN b) z<|dm (vN b) z<|nl<|?_
 cases H
 exact je ⟨z, z, tv⟩ g
 refine mv z<|bK H fun o hC H=>js 5 h [(1, pointer (some ⟨j, 0, none⟩)), (24, bool o)] ?_ fun _ W i=>?_
 refine have H:=hC;dC (n = true) (fun c=>?_) fun c=>?_
 refine yK c H fun H=>fa (hw:=gY z z z (vY c)) ee z<|fa (hw:=gY z z z (vY c)) gZ z<|ld (hw:=gY z z z (vY c)) h 0 bb z z z<|bK H fun X y H=>cv (hw:=gY z z z (vY c)) gM (aD y h) z z fun Y A=>cY (vY c) z<|nl<|?_
 cases H
 exact je ⟨z, z, tv⟩ A
 refine nK c H fun H=>Sk 4 z z (vN c) z<|dm (vN c) z<|nl<|?_
 cases H
 exact je ⟨z, z, tv⟩ h
 refine mv z<|bK H fun B hC H=>js 4 i [(29, bool B)] ?_ fun _ Z C=>?_
 refine have H:=hC;dC (o = true) (fun d=>?_) fun d=>?_
 refine yK d H fun H=>gg (hw:=gY z z z (vY d)) i 0 px z z z z<|bK H fun aa D H=>cv (hw:=gY z z z (vY d)) bo38 (ig D i) z z fun ab E=>bK H fun ac F H=>cv (hw:=gY z z z (vY d)) bo37 (jx F E) z z fun ad I=>cY (vY d) z<|nl<|?_
 cases H
 exact je ⟨z, tv⟩ I
 refine nK d H fun H=>Sk 3 z z (vN d) z<|dm (vN d) z<|nl<|?_
 cases H
 exact je ⟨z, tv⟩ i
 refine aK z<|nl<|q _ _ _<|wr<|have J:=Hp.pick 1 [] C z;?_
 cases H
 exact rt ⟨_, _, z, z, z⟩ J
theorem iG {a1 a G L w} (H : cX a1 = some a) (hI : Hp G L w) :
    Calls Try.prog 53 [int .i64 a1].toArray w fun e w' => Hp G L w' ∧ e = .returned (bool a) := by
 refine aw (N := 6) Try.func53 z z (Nat.le_of_ble_eq_true z)<|?_
 unfold cX at H
 refine sr fun g b=>aK z<|nl<|b _ _ _<|sr fun h c=>mv z<|bK H fun i d H=>cv gM (aD d hI) z z fun j f=>bV z<|aK z<|nl<|c _ _ _<|wr<|?_
 cases H
 exact rt ⟨_, _, z, z, z⟩ f
theorem gh {a1 f g j G L w} (H : bX a1 = some j) (hI : Hp G L w) (R : a1.length ≤ g) (q : Dat (Kd.int .i64) G f a1) :
    Calls Try.prog 61 [slice f a1.length g, func (.func 53) [].toArray [].toArray].toArray w fun e w' => Hp G L w' ∧ e = .returned (int .i64 j) := by
 refine aw (N := 19) Try.func61 z z (Nat.le_of_ble_eq_true z)<|?_
 unfold bX at H
 refine sr fun S s=>aK z<|nl<|s _ _ _<|sQ fun T t=>sr fun U u=>mv z<|q_len l6 z<|mv z<|nl<|u _ _ _<|wb<|bK H fun h hC H=>aP (Q := fun e r ds w => match (generalizing := false) h with | (Sum.inl k) => e = .ret ∧ ds = [] ∧ Has [(4, int .i64 k)] r ∧ Hp G (L) w ∧ True | (Sum.inr _) => e = .exit 0 ∧ ds = [] ∧ Has [] r ∧ Hp G (L) w ∧ True) ?_ ?_
 refine bH fun I p=>?_
 refine aI.partial_correctness a1 (fun d o => ∀ (r : Rg) (w : World), Has [(0, slice f a1.length g), (1, func (.func 53) [].toArray [].toArray), (7, int .i64 (a1.length : Int)), (8, int .i64 d)] r → Hp G (L) w → o = h → I r [] w) ?_ 0 _ hC _ _ ⟨rfl, rfl, rfl, rfl, tv⟩ hI rfl
 intro _ ih d o H r V a i ho
 rw [ho] at H; clear ho
 rw [a.eq]; clear a
 refine p _ _ _<|sr fun W v=>cZ z z<|nl<|v _ _ _<|sQ fun X x=>dC (d < (a1.length : Int)) (fun b=>?_) fun b=>?_
 refine yK b H fun H=>wt (bY b)<|ws<|x _ _ _<|sQ fun Y y=>wb<|sr fun Z A=>mv z<|aK z<|nl<|A _ _ _<|sr fun aa B=>mv z<|mv z<|?_
 refine mv z<|iK H fun⟨l, m⟩H=>?_
 obtain ⟨ab, ac, C, D, ad, E⟩ := Dat.get q (0 : Int) (d) l m
 obtain rfl := D
 refine bL j5 z C z l m<|et i bb z (gR.cel _ _ (E 0 _ z))<|bK H fun F J H=>cv bo53 (iG J i) z z fun ae n=>nl<|B _ _ _<|dC (F = true) (fun c=>?_) fun c=>?_
 refine yK c H fun H=>wt (vY c)<|sr fun af K=>mv z<|aK z<|nl<|K _ _ _<|wr<|?_
 cases H
 exact ⟨z, z, ⟨z, tv⟩, n, tv⟩
 exact nK c H fun H=>wf (vN c)<|ws<|y _ _ _<|aA<|bm z z<|mv z<|nl<|ih _ _ H _ _ ⟨z, z, z, z, tv⟩ n z
 refine nK b H fun H=>wf (bN b)<|wx<|?_
 cases H
 exact ⟨z, z, trivial, i, tv⟩
 rcases h with k | _
 rintro e r ds ag ⟨rfl, rfl, a, M, _⟩
 rw [a.eq]; clear a
 cases H
 exact rt ⟨_, _, z, z, z⟩ M
 rintro e r ds ah ⟨rfl, rfl, a, O, _⟩
 rw [a.eq]; clear a
 refine t _ _ _<|sr fun ai P=>aK z<|nl<|P _ _ _<|wr<|?_
 cases H
 exact rt ⟨_, _, z, z, z⟩ O
theorem fJ {a1 a b c G L w} (H : bI a1 = some c) (hI : Hp G L w) (d : a1.length ≤ b) (f : Dat (Kd.int .i64) G a a1) :
    Calls Try.prog 52 [slice a a1.length b, func (.func 53) [].toArray [].toArray].toArray w fun e w' => Hp G L w' ∧ e = .returned (bool c) := by
 refine aw (N := 9) Try.func52 z z (Nat.le_of_ble_eq_true z)<|?_
 unfold bI at H
 refine sr fun k g=>aK z<|nl<|g _ _ _<|sr fun l h=>mv z<|mv z<|bK H fun m i H=>cv bo61 (gh i hI d f) z z fun n j=>gS z z<|aK z<|nl<|h _ _ _<|wr<|?_
 cases H
 exact rt ⟨_, _, z, z, z⟩ j
theorem cW {a1 a b c G L w} (H : db a1 = some c) (hI : Hp G L w) (d : a1.length ≤ b) (f : Dat (Kd.int .i64) G a a1) :
    Calls Try.prog 39 [slice a a1.length b].toArray w fun e w' => Hp G L w' ∧ e = .returned (bool c) := by
 refine aw (N := 6) Try.func39 z z (Nat.le_of_ble_eq_true z)<|?_
 unfold db at H
 refine sr fun k g=>aK z<|nl<|g _ _ _<|sr fun l h=>mv z<|bK H fun m i H=>cv bo52 (fJ i hI d f) z z fun n j=>bV z<|aK z<|nl<|h _ _ _<|wr<|?_
 cases H
 exact rt ⟨_, _, z, z, z⟩ j
theorem kz {a1 o G L w} (H : fU a1 = some o) (hI : Hp G L w) :
    Calls Try.prog 54 [int .u8 a1].toArray w fun e w' => Hp G L w' ∧ e = .returned (int .i64 o) := by
 refine aw (N := 37) Try.func54 z z (Nat.le_of_ble_eq_true z)<|?_
 unfold fU at H
 refine sr fun P u=>aK z<|nl<|u _ _ _<|sQ fun Q v=>wb<|sr fun R x=>mv z<|ei z z<|aK z<|nl<|x _ _ _<|dC (a1 = 32) (fun f=>?_) fun f=>?_
 refine yK f H fun H=>wt (bY f)<|sr fun S y=>aK z<|nl<|y _ _ _<|wr<|?_
 cases H
 exact rt ⟨_, _, z, z, z⟩ hI
 refine nK f H fun H=>wf (bN f)<|sr fun T A=>mv z<|ei z z<|aK z<|nl<|A _ _ _<|dC (a1 = 126) (fun g=>?_) fun g=>?_
 refine yK g H fun H=>wt (bY g)<|sr fun U B=>aK z<|nl<|B _ _ _<|wr<|?_
 cases H
 exact rt ⟨_, _, z, z, z⟩ hI
 refine nK g H fun H=>wf (bN g)<|sr fun V C=>mv z<|cZ z z<|mv z<|bK H fun p hC H=>js 3 hI [(0, int .u8 a1), (15, bool p)] ?_ fun _ W l=>?_
 refine have H:=hC;dC (a1 < 32) (fun a=>?_) fun a=>?_
 refine yK a H fun H=>Sk 2 z z (bY a) z<|cY (bY a) z<|nl<|?_
 cases H
 exact je ⟨z, z, tv⟩ hI
 refine nK a H fun H=>mv (hw:=gY z z z (bN a)) z<|gq (hw:=gY z z z (bN a)) z z<|dm (bN a) z<|nl<|?_
 cases H
 exact je ⟨z, z, tv⟩ hI
 refine aK z<|nl<|C _ _ _<|dC (p = true) (fun h=>?_) fun h=>?_
 refine yK h H fun H=>wt (vY h)<|sr fun X D=>aK z<|nl<|D _ _ _<|wr<|?_
 cases H
 exact rt ⟨_, _, z, z, z⟩ l
 refine nK h H fun H=>wf (vN h)<|sr fun Y E=>mv z<|dq z z<|mv z<|bK H fun q hC H=>js 3 l [(0, int .u8 a1), (22, bool q)] ?_ fun _ Z m=>?_
 refine have H:=hC;dC (97 ≤ a1) (fun b=>?_) fun b=>?_
 refine yK b H fun H=>mv (hw:=gY z z z (bY b)) z<|dq (hw:=gY z z z (bY b)) z z<|cY (bY b) z<|nl<|?_
 cases H
 exact je ⟨z, z, tv⟩ l
 refine nK b H fun H=>Sk 2 z z (bN b) z<|dm (bN b) z<|nl<|?_
 cases H
 exact je ⟨z, z, tv⟩ l
 refine aK z<|nl<|E _ _ _<|dC (q = true) (fun i=>?_) fun i=>?_
 refine yK i H fun H=>wt (vY i)<|sr fun aa F=>aK z<|nl<|F _ _ _<|wr<|?_
 cases H
 exact rt ⟨_, _, z, z, z⟩ m
 refine nK i H fun H=>wf (vN i)<|sr fun ab I=>mv z<|dq z z<|mv z<|bK H fun r hC H=>js 3 m [(0, int .u8 a1), (29, bool r)] ?_ fun _ ac n=>?_
 refine have H:=hC;dC (65 ≤ a1) (fun c=>?_) fun c=>?_
 refine yK c H fun H=>mv (hw:=gY z z z (bY c)) z<|dq (hw:=gY z z z (bY c)) z z<|cY (bY c) z<|nl<|?_
 cases H
 exact je ⟨z, z, tv⟩ m
 refine nK c H fun H=>Sk 2 z z (bN c) z<|dm (bN c) z<|nl<|?_
 cases H
 exact je ⟨z, z, tv⟩ m
 refine aK z<|nl<|I _ _ _<|dC (r = true) (fun j=>?_) fun j=>?_
 refine yK j H fun H=>wt (vY j)<|sr fun ad J=>aK z<|nl<|J _ _ _<|wr<|?_
 cases H
 exact rt ⟨_, _, z, z, z⟩ n
 refine nK j H fun H=>wf (vN j)<|sr fun ae K=>mv z<|dq z z<|mv z<|bK H fun s hC H=>js 3 n [(36, bool s)] ?_ fun _ af t=>?_
 refine have H:=hC;dC (48 ≤ a1) (fun d=>?_) fun d=>?_
 refine yK d H fun H=>mv (hw:=gY z z z (bY d)) z<|dq (hw:=gY z z z (bY d)) z z<|cY (bY d) z<|nl<|?_
 cases H
 exact je ⟨z, tv⟩ n
 refine nK d H fun H=>Sk 2 z z (bN d) z<|dm (bN d) z<|nl<|?_
 cases H
 exact je ⟨z, tv⟩ n
 refine aK z<|nl<|K _ _ _<|dC (s = true) (fun k=>?_) fun k=>?_
 refine yK k H fun H=>wt (vY k)<|sr fun ag M=>aK z<|nl<|M _ _ _<|wr<|?_
 cases H
 exact rt ⟨_, _, z, z, z⟩ t
 refine nK k H fun H=>wf (vN k)<|ws<|v _ _ _<|sr fun ah O=>aK z<|nl<|O _ _ _<|wr<|?_
 cases H
 exact rt ⟨_, _, z, z, z⟩ t
theorem gj {a1 k G L w} (H : ed a1 = some k) (hI : Hp G L w) :
    Calls Try.prog 40 [string a1].toArray w fun e w' => Hp G L w' ∧ e = .returned (bool k) := by
 refine aw (N := 21) Try.func40 z z (Nat.le_of_ble_eq_true z)<|?_
 unfold ed at H
 refine sr fun P t=>aK z<|nl<|t _ _ _<|sQ fun R u=>sr fun S v=>mv z<|qO hI qp z fun c T x=>nl<|v _ _ _<|wb<|bK H fun h hC H=>?_
 refine aP (Q := fun e r ds w => match (generalizing := false) h with | (Sum.inl l) => e = .ret ∧ ds = [] ∧ Has [(2, bool false)] r ∧ Hp G (ob c (Obj.stringIter a1 l) :: L) w ∧ True | (Sum.inr m) => e = .exit 0 ∧ ds = [] ∧ Has [(0, string a1)] r ∧ Hp G (ob c (Obj.stringIter a1 m) :: L) w ∧ True) ?_ ?_
 refine bH fun I s=>?_
 refine cT.partial_correctness a1 (fun g o => ∀ (r : Rg) (w : World), Has [(0, string a1), (6, pointer (some ⟨c, 0, none⟩))] r → Hp G (ob c (Obj.stringIter a1 g) :: L) w → o = h → I r [] w) ?_ 0 _ hC _ _ ⟨rfl, rfl, tv⟩ x rfl
 intro _ ih g o H r U b i ho
 rw [ho] at H; clear ho
 rw [b.eq]; clear b
 refine s _ _ _<|sr fun V n=>dC (g < a1.size) (fun d=>?_) fun d=>?_
 refine yK d H fun H=>qU i 0 z z d fun W j=>ls z z<|nl<|n _ _ _<|sQ fun X y=>wt z<|ws<|y _ _ _<|wb<|sr fun Y A=>ls z z<|aK z<|nl<|?_
 refine A _ _ _<|sr fun Z B=>mv z<|gq z z<|mv z<|bK H fun p hC H=>js 5 j [(0, string a1), (6, pointer (some ⟨c, 0, none⟩)), (17, bool p)] ?_ fun _ aa q=>?_
 refine have H:=hC;dC (126 < ((Utf8.decode a1 g).1 : Int)) (fun a=>?_) fun a=>?_
 refine yK a H fun H=>Sk 4 z z (bY a) z<|cY (bY a) z<|nl<|?_
 cases H
 exact je ⟨z, z, z, tv⟩ j
 refine nK a H fun H=>mv (hw:=gY z z z (bN a)) z<|qz (hw:=gY z z z (bN a)) ik21 ik5 z<|bK H fun ab C H=>cv (hw:=gY z z z (bN a)) bo54 (kz C j) z z fun ac D=>ei (hw:=gY z z z (bN a)) z z<|dm (bN a) z<|nl<|?_
 cases H
 exact je ⟨z, z, z, tv⟩ D
 refine nl<|B _ _ _<|dC (p = true) (fun f=>?_) fun f=>?_
 refine yK f H fun H=>wt (vY f)<|sr fun ad E=>aK z<|nl<|E _ _ _<|wr<|?_
 cases H
 exact ⟨z, z, ⟨z, tv⟩, q, tv⟩
 exact nK f H fun H=>wf (vN f)<|ws<|ih _ _ H _ _ ⟨z, z, tv⟩ q z
 refine nK d H fun H=>qT i 0 z z d<|ls z z<|nl<|n _ _ _<|sQ fun ae af=>wf z<|wx<|?_
 cases H
 exact ⟨z, z, ⟨z, tv⟩, i, tv⟩
 rcases h with l | m
 rintro e r ds ag ⟨rfl, rfl, b, F, _⟩
 rw [b.eq]; clear b
 refine have J:=Hp.pick 1 [] F z;?_
 cases H
 exact rt ⟨_, _, z, z, z⟩ J
 rintro e r ds ah ⟨rfl, rfl, b, K, _⟩
 rw [b.eq]; clear b
 refine u _ _ _<|sr fun ai M=>mv z<|mb qp z<|dq z z<|aK z<|nl<|M _ _ _<|wr<|have O:=Hp.pick 1 [] K z;?_
 cases H
 exact rt ⟨_, _, z, z, z⟩ O
end Go.Proofs.Ytlcfemplcaejgaa.LG
