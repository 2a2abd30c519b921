/-
  The plain functions with fuel, so that the kernel can compute them: printed by a program.
-/
import Derived.Test.YtlcfemplcaejgaaPd
import Derived.KernelRfl
set_option linter.unusedVariables false
set_option maxRecDepth 100000
namespace Go.Proofs.Ytlcfemplcaejgaa.LG
open Go Go.LG
def Le {α : Type} (x y : Option α) : Prop := ∀ r, x = some r → y = some r
theorem Le.rfl {α : Type} {x : Option α} : Le x x := fun _ h => h
theorem Le.none {α : Type} {x : Option α} : Le none x := fun _ h => nomatch h
theorem Le.bind {α β : Type} {x y : Option α} {f g : α → Option β} (h : Le x y) (k : ∀ a, Le (f a) (g a)) : Le (x >>= f) (y >>= g) := by
  intro r hr
  cases x with
  | none => cases hr
  | some a => rw [h a _root_.rfl]; exact k a r hr
theorem Le.ite {α : Type} {c : Prop} [Decidable c] {x y x' y' : Option α} (h : Le x x') (k : Le y y') : Le (if c then x else y) (if c then x' else y') := by
  by_cases hc : c
  · rw [if_pos hc, if_pos hc]; exact h
  · rw [if_neg hc, if_neg hc]; exact k
theorem lb {α β : Type} {x y : Option α} {f g : α → Option β} (h : Le x y) (k : ∀ a, Le (f a) (g a)) : Le (x >>= f) (y >>= g) := Le.bind h k
theorem lr {α : Type} {x : Option α} : Le x x := Le.rfl
theorem li {α : Type} {c : Prop} [Decidable c] {x y x' y' : Option α} (h : Le x x') (k : Le y y') : Le (if c then x else y) (if c then x' else y') := Le.ite h k
theorem qm {U α : Type} {φ φ' : U → α → Option (U × Option Nat)} (h : ∀ u x, Le (φ' u x) (φ u x)) : ∀ s x, Le (n3 φ' s x) (n3 φ s x) := fun s x => by
  unfold n3
  split
  · exact Le.rfl
  · exact Le.bind (h _ _) fun _ => Le.rfl
def cp (fu : Nat) (a1 : List bG) (a : Int) : Option (Sum Int Unit) := match fu with
  | 0 => none
  | fu + 1 => (if a < (a1.length : Int) then (if (0 : Int) ≤ a ∧ a < (a1.length : Int) then (gx (a1.getD (Int.toNat a) bW) >>= fun b => (if b = true then some (Sum.inl a) else cp fu a1 (aj (a + 1)))) else none) else some (Sum.inr ()))
theorem e6 {fu a1 a} : Le (cp fu a1 a) (aN a1 a) := by
  induction fu generalizing a1 a with
  | zero => exact Le.none
  | succ fu ih =>
    rw [aN]
    exact (li (li (lb lr fun _ => (li lr ih)) lr) lr)
def cO (fu : Nat) (a1 : List bG) : Option (Int) :=
  (cp fu a1 0 >>= fun a => match a with | (Sum.inl b) => some b | (Sum.inr _) => some (-1))
theorem fL {fu a1} : Le (cO fu a1) (bA a1) := by
  unfold cO bA
  exact (lb e6 fun a => (match a with | (Sum.inl b) => lr | (Sum.inr _) => lr))
def cD (fu : Nat) (a1 : List bG) : Option (Bool) :=
  (cO fu a1 >>= fun a => some (decide (0 ≤ a)))
theorem fg {fu a1} : Le (cD fu a1) (aY a1) := by
  unfold cD aY
  exact (lb fL fun _ => lr)
def iA (fu : Nat) (a1 : List bG) : Option (Bool) :=
  ((if (a1.length : Int) ≤ 1000 then (cD fu a1 >>= fun a => some (!a)) else some false) >>= fun b => some b)
theorem lc {fu a1} : Le (iA fu a1) (fh a1) := by
  unfold iA fh
  exact (lb (li (lb fg fun _ => lr) lr) fun _ => lr)
def co (fu : Nat) (a1 : List bG) (b : bP) (a : Int) : Option (Sum Int Unit) := match fu with
  | 0 => none
  | fu + 1 => (if a < (a1.length : Int) then (if (0 : Int) ≤ a ∧ a < (a1.length : Int) then (f7 (a1.getD (Int.toNat a) bW) b >>= fun c => (if c = true then some (Sum.inl a) else co fu a1 b (aj (a + 1)))) else none) else some (Sum.inr ()))
theorem eZ {fu a1 a b} : Le (co fu a1 a b) (aO a1 a b) := by
  induction fu generalizing a1 a b with
  | zero => exact Le.none
  | succ fu ih =>
    rw [aO]
    exact (li (li (lb lr fun _ => (li lr ih)) lr) lr)
def cR (fu : Nat) (a1 : List bG) (a : bP) : Option (Int) :=
  (co fu a1 a 0 >>= fun b => match b with | (Sum.inl c) => some c | (Sum.inr _) => some (-1))
theorem fK {fu a1 a} : Le (cR fu a1 a) (bz a1 a) := by
  unfold cR bz
  exact (lb eZ fun b => (match b with | (Sum.inl c) => lr | (Sum.inr _) => lr))
def cE (fu : Nat) (a1 : List bG) (a : bP) : Option (Bool) :=
  (cR fu a1 a >>= fun b => some (decide (0 ≤ b)))
theorem fd {fu a1 a} : Le (cE fu a1 a) (aQ a1 a) := by
  unfold cE aQ
  exact (lb fK fun _ => lr)
def jL (fu : Nat) (a1 : List bG) (a6 : bP) : Option (Bool × Int) :=
  (iA fu a1 >>= fun a => ((if (!a) = true then some true else (i5 a6 >>= fun b => (fT b >>= fun c => some (!c)))) >>= fun d => (if d = true then some (false, 1) else (cE fu a1 a6 >>= fun e => some (e, 0)))))
theorem me {fu a1 a6} : Le (jL fu a1 a6) (ip a1 a6) := by
  unfold jL ip
  exact (lb lc fun _ => (lb (li lr (lb lr fun _ => (lb lr fun _ => lr))) fun _ => (li lr (lb fd fun _ => lr))))
def fQ (fu : Nat) (a1 : bP) : Option (Bool) :=
  (jL fu ([] : List bG) a1 >>= fun (b, a) => some (decide (a = 0)))
theorem j0 {fu a1} : Le (fQ fu a1) (dT a1) := by
  unfold fQ dT
  exact (lb me fun _ => lr)
def eT (fu : Nat) (a1 : aX) : Option (Bool) :=
  (ba a1.Paper.Columns 1 8 >>= fun a => ((if a = true then (ba a1.Paper.Gap 0 1000 >>= fun b => some b) else some false) >>= fun c => ((if c = true then (ba a1.Paper.Width 1 100000 >>= fun d => some d) else some false) >>= fun e => ((if e = true then (ba a1.Paper.Height 1 1000000 >>= fun f => some f) else some false) >>= fun g => ((if g = true then (du a1 >>= fun h => (fQ fu h >>= fun i => some i)) else some false) >>= fun j => some j)))))
theorem jk {fu a1} : Le (eT fu a1) (cH a1) := by
  unfold eT cH
  exact (lb lr fun _ => (lb (li (lb lr fun _ => lr) lr) fun _ => (lb (li (lb lr fun _ => lr) lr) fun _ => (lb (li (lb lr fun _ => lr) lr) fun _ => (lb (li (lb lr fun _ => (lb j0 fun _ => lr)) lr) fun _ => lr)))))
def cU (fu : Nat) (a1 : List Int) (a : Int) : Option (Sum Int Unit) := match fu with
  | 0 => none
  | fu + 1 => (if a < (a1.length : Int) then (if (0 : Int) ≤ a ∧ a < (a1.length : Int) then (cX (a1.getD (Int.toNat a) (0 : Int)) >>= fun b => (if b = true then some (Sum.inl a) else cU fu a1 (aj (a + 1)))) else none) else some (Sum.inr ()))
theorem fX {fu a1 a} : Le (cU fu a1 a) (aI a1 a) := by
  induction fu generalizing a1 a with
  | zero => exact Le.none
  | succ fu ih =>
    rw [aI]
    exact (li (li (lb lr fun _ => (li lr ih)) lr) lr)
def dz (fu : Nat) (a1 : List Int) : Option (Int) :=
  (cU fu a1 0 >>= fun a => match a with | (Sum.inl b) => some b | (Sum.inr _) => some (-1))
theorem gz {fu a1} : Le (dz fu a1) (bX a1) := by
  unfold dz bX
  exact (lb fX fun a => (match a with | (Sum.inl b) => lr | (Sum.inr _) => lr))
def dc (fu : Nat) (a1 : List Int) : Option (Bool) :=
  (dz fu a1 >>= fun a => some (decide (0 ≤ a)))
theorem f9 {fu a1} : Le (dc fu a1) (bI a1) := by
  unfold dc bI
  exact (lb gz fun _ => lr)
def fI (fu : Nat) (a1 : List Int) : Option (Bool) :=
  (dc fu a1 >>= fun a => some (!a))
theorem jN {fu a1} : Le (fI fu a1) (db a1) := by
  unfold fI db
  exact (lb f9 fun _ => lr)
def fP (fu : Nat) (a1 : ByteArray) (a : Nat) : Option (Sum Nat Nat) := match fu with
  | 0 => none
  | fu + 1 => (if a < a1.size then ((if 126 < ((Utf8.decode a1 a).1 : Int) then some true else (fU (wu8 (((Utf8.decode a1 a).1 : Int))) >>= fun b => some (decide (b = 0)))) >>= fun c => (if c = true then some (Sum.inl (a + (Utf8.decode a1 a).2)) else fP fu a1 (a + (Utf8.decode a1 a).2))) else some (Sum.inr a))
theorem jX {fu a1 a} : Le (fP fu a1 a) (cT a1 a) := by
  induction fu generalizing a1 a with
  | zero => exact Le.none
  | succ fu ih =>
    rw [cT]
    exact (li (lb (li lr (lb lr fun _ => lr)) fun _ => (li lr ih)) lr)
def iw (fu : Nat) (a1 : ByteArray) : Option (Bool) :=
  (fP fu a1 0 >>= fun a => match a with | (Sum.inl b) => some false | (Sum.inr c) => some (decide ((a1.size : Int) ≤ 2000)))
theorem lq {fu a1} : Le (iw fu a1) (ed a1) := by
  unfold iw ed
  exact (lb jX fun a => (match a with | (Sum.inl b) => lr | (Sum.inr c) => lr))
def eF (fu : Nat) (a1 : List ac) (a : Int) : Option (Sum Unit Unit) := match fu with
  | 0 => none
  | fu + 1 => (if a < (a1.length : Int) then (if (0 : Int) ≤ a ∧ a < (a1.length : Int) then ((ba ((a1.getD (Int.toNat a) aa).Node) 1 1000000 >>= fun b => (if (!b) = true then some true else (ba ((a1.getD (Int.toNat a) aa).Table) 0 1000000 >>= fun c => (if (!c) = true then some true else (fI fu ([(a1.getD (Int.toNat a) aa).X, (a1.getD (Int.toNat a) aa).Y] : List Int) >>= fun d => (if (!d) = true then some true else (ba ((a1.getD (Int.toNat a) aa).H) 0 1000000 >>= fun e => (if (!e) = true then some true else (iw fu ((a1.getD (Int.toNat a) aa).Text) >>= fun f => (if (!f) = true then some true else (if 0 < a then (if (0 : Int) ≤ aj (a - 1) ∧ aj (a - 1) < (a1.length : Int) then some (decide (((a1.getD (Int.toNat a) aa).Y) < ((a1.getD (Int.toNat (aj (a - 1))) aa).Y))) else none) else some false))))))))))) >>= fun g => (if g = true then some (Sum.inl ()) else eF fu a1 (aj (a + 1)))) else none) else some (Sum.inr ()))
theorem iY {fu a1 a} : Le (eF fu a1 a) (bR a1 a) := by
  induction fu generalizing a1 a with
  | zero => exact Le.none
  | succ fu ih =>
    rw [bR]
    exact (li (li (lb (lb lr fun _ => (li lr (lb lr fun _ => (li lr (lb jN fun _ => (li lr (lb lr fun _ => (li lr (lb lq fun _ => (li lr (li (li lr lr) lr))))))))))) fun _ => (li lr ih)) lr) lr)
def fW (fu : Nat) (a1 : List ac) (a6 : List Bool) : Option (Bool) :=
  ((if 10000 < (a1.length : Int) then some true else some (decide (¬ (a6.length : Int) = (a1.length : Int)))) >>= fun a => (if a = true then some false else (eF fu a1 0 >>= fun b => match b with | (Sum.inl _) => some false | (Sum.inr _) => some true)))
theorem j1 {fu a1 a6} : Le (fW fu a1 a6) (dp a1 a6) := by
  unfold fW dp
  exact (lb (li lr lr) fun _ => (li lr (lb iY fun a => (match a with | (Sum.inl _) => lr | (Sum.inr _) => lr))))
def gm (fu : Nat) (a1 : List ac) (b : Int) (a : Int) : Option (Int) := match fu with
  | 0 => none
  | fu + 1 => (if a < (a1.length : Int) then (if (0 : Int) ≤ a ∧ a < (a1.length : Int) then gm fu a1 (aj (b + ((a1.getD (Int.toNat a) aa).H))) (aj (a + 1)) else none) else some b)
theorem kh {fu a1 a b} : Le (gm fu a1 a b) (cS a1 a b) := by
  induction fu generalizing a1 a b with
  | zero => exact Le.none
  | succ fu ih =>
    rw [cS]
    exact (li (li ih lr) lr)
def eI (fu : Nat) (a1 : List ac) : Option (Int) :=
  (gm fu a1 0 0 >>= fun a => some a)
theorem fH {fu a1} : Le (eI fu a1) (dB a1) := by
  unfold eI dB
  exact (lb kh fun _ => lr)
def dP (fu : Nat) (a3 : ai) (b : List ac) (d : Int) (e : Int) (f : Int) (a : Int) (c : List ac) : Option ((List ac)) := match fu with
  | 0 => none
  | fu + 1 => (if a < (b.length : Int) then (if (0 : Int) ≤ a ∧ a < (b.length : Int) then (if c.length + 1 ≤ 2199023255552 then dP fu a3 b d e f (aj (a + 1)) (c ++ [(⟨(b.getD (Int.toNat a) aa).Node, (b.getD (Int.toNat a) aa).Table, aj (((b.getD (Int.toNat a) aa).X) + (aj ((aj ((a3.fills.length : Int) - 1)) * (aj (f + a3.sheet.Paper.Gap))))), aj ((aj (((b.getD (Int.toNat a) aa).Y) - d)) + e), (b.getD (Int.toNat a) aa).H, (b.getD (Int.toNat a) aa).Text, (b.getD (Int.toNat a) aa).Head, (b.getD (Int.toNat a) aa).Note⟩ : ac)]) else none) else none) else some c)
theorem gL {fu a3 a b c d e f} : Le (dP fu a3 a b c d e f) (a5 a3 a b c d e f) := by
  induction fu generalizing a3 a b c d e f with
  | zero => exact Le.none
  | succ fu ih =>
    rw [a5]
    exact (li (li (li ih lr) lr) lr)
def dS (fu : Nat) (a3 : ai) (a : List ac) (b : Int) (c : Int) : Option (ai) :=
  (cu a3.sheet >>= fun d => (dP fu a3 a b c d 0 a3.placed >>= fun e => some (⟨a3.sheet, e, a3.notes, a3.fills⟩ : ai)))
theorem ge {fu a3 a b c} : Le (dS fu a3 a b c) (ce a3 a b c) := by
  unfold dS ce
  exact (lb lr fun _ => (lb gL fun _ => lr))
def cJ (fu : Nat) (a3 : ai) (b : ak) (c : Int) : Option (ai) :=
  (cG b >>= fun d => (dS fu a3 b.slices d c >>= fun a => (bj b >>= fun e => (if (0 : Int) ≤ aj ((a.fills.length : Int) - 1) ∧ aj ((a.fills.length : Int) - 1) < (a.fills.length : Int) then (if a.notes.length + b.notes.length ≤ 2199023255552 then some (⟨a.sheet, a.placed, a.notes ++ b.notes, List.set a.fills (Int.toNat (aj ((a.fills.length : Int) - 1))) (aj (c + e))⟩ : ai) else none) else none))))
theorem dE {fu a3 a b} : Le (cJ fu a3 a b) (bk a3 a b) := by
  unfold cJ bk
  exact (lb lr fun _ => (lb ge fun _ => (lb lr fun _ => (li (li lr lr) lr))))
def fi (fu : Nat) (f : ak) (c : List ak) (a : Int) (d : List ac) (e : Int) (b : Int) : Option (Sum ((List ac) × Int) ((List ac) × Int)) := match fu with
  | 0 => none
  | fu + 1 => (if b < (((c.getD (Int.toNat (aj (a - 1))) am).slices).length : Int) then ((if (0 : Int) ≤ b ∧ b < (((c.getD (Int.toNat (aj (a - 1))) am).slices).length : Int) then ((if ((((c.getD (Int.toNat (aj (a - 1))) am).slices).getD (Int.toNat b) aa).Head) = true then some (decide (a = 0)) else some false) >>= fun g => (if g = true then some (Sum.inl ()) else ((if ((((c.getD (Int.toNat (aj (a - 1))) am).slices).getD (Int.toNat b) aa).Head) = true then some (decide (((((c.getD (Int.toNat (aj (a - 1))) am).slices).getD (Int.toNat b) aa).Table) = ((f.slices.getD (Int.toNat 0) aa).Table))) else some false) >>= fun h => (if h = true then (if d.length + 1 ≤ 2199023255552 then (if (0 : Int) ≤ 0 ∧ 0 < ((d ++ [(((c.getD (Int.toNat (aj (a - 1))) am).slices).getD (Int.toNat b) aa)]).length : Int) then some (Sum.inr (d ++ [(((c.getD (Int.toNat (aj (a - 1))) am).slices).getD (Int.toNat b) aa)], max e (aj ((aj (((((c.getD (Int.toNat (aj (a - 1))) am).slices).getD (Int.toNat b) aa).Y) + ((((c.getD (Int.toNat (aj (a - 1))) am).slices).getD (Int.toNat b) aa).H))) - (((d ++ [(((c.getD (Int.toNat (aj (a - 1))) am).slices).getD (Int.toNat b) aa)]).getD (Int.toNat 0) aa).Y))))) else none) else none) else some (Sum.inr (d, e)))))) else none) >>= fun i => match i with | (Sum.inl _) => some (Sum.inl (d, e)) | (Sum.inr (j, k)) => fi fu f c a j k (aj (b + 1))) else some (Sum.inr (d, e)))
theorem jv {fu a b c d e f} : Le (fi fu a b c d e f) (bf a b c d e f) := by
  induction fu generalizing a b c d e f with
  | zero => exact Le.none
  | succ fu ih =>
    rw [bf]
    exact (li (lb (li (lb (li lr lr) fun _ => (li lr (lb (li lr lr) fun _ => (li (li (li lr lr) lr) lr)))) lr) fun g => (match g with | (Sum.inl _) => lr | (Sum.inr (h, i)) => ih)) lr)
def e9 (fu : Nat) (a : ak) (e : Int) (c : List ac) (d : Int) (b : Int) : Option (Sum ((List ac) × Int) ((List ac) × Int)) := match fu with
  | 0 => none
  | fu + 1 => (if b < (a.slices.length : Int) then ((if (0 : Int) ≤ b ∧ b < (a.slices.length : Int) then ((if ((a.slices.getD (Int.toNat b) aa).Head) = true then some (decide (e = 0)) else some false) >>= fun f => (if f = true then some (Sum.inl ()) else ((if ((a.slices.getD (Int.toNat b) aa).Head) = true then some (decide (((a.slices.getD (Int.toNat b) aa).Table) = ((a.slices.getD (Int.toNat 0) aa).Table))) else some false) >>= fun g => (if g = true then (if c.length + 1 ≤ 2199023255552 then (if (0 : Int) ≤ 0 ∧ 0 < ((c ++ [(a.slices.getD (Int.toNat b) aa)]).length : Int) then some (Sum.inr (c ++ [(a.slices.getD (Int.toNat b) aa)], max d (aj ((aj (((a.slices.getD (Int.toNat b) aa).Y) + ((a.slices.getD (Int.toNat b) aa).H))) - (((c ++ [(a.slices.getD (Int.toNat b) aa)]).getD (Int.toNat 0) aa).Y))))) else none) else none) else some (Sum.inr (c, d)))))) else none) >>= fun h => match h with | (Sum.inl _) => some (Sum.inl (c, d)) | (Sum.inr (i, j)) => e9 fu a e i j (aj (b + 1))) else some (Sum.inr (c, d)))
theorem jD {fu a b c d e} : Le (e9 fu a b c d e) (bg a b c d e) := by
  induction fu generalizing a b c d e with
  | zero => exact Le.none
  | succ fu ih =>
    rw [bg]
    exact (li (lb (li (lb (li lr lr) fun _ => (li lr (lb (li lr lr) fun _ => (li (li (li lr lr) lr) lr)))) lr) fun f => (match f with | (Sum.inl _) => lr | (Sum.inr (g, h)) => ih)) lr)
def fy (fu : Nat) (b : ak) (c : List ak) (d : List ac) (e : Int) (a : Int) : Option ((List ac) × Int) := match fu with
  | 0 => none
  | fu + 1 => ((if a ≤ (c.length : Int) then some (decide (¬ ((b.slices.getD (Int.toNat 0) aa).Table) = 0)) else some false) >>= fun f => (if f = true then ((if 0 < a then (if (0 : Int) ≤ aj (a - 1) ∧ aj (a - 1) < (c.length : Int) then (fi fu b c a d e 0 >>= fun g => match g with | (Sum.inl (h, i)) => some (Sum.inl (h, i)) | (Sum.inr (j, k)) => some (Sum.inr (j, k))) else none) else (e9 fu b a d e 0 >>= fun l => match l with | (Sum.inl (m, n)) => some (Sum.inl (m, n)) | (Sum.inr (o, p)) => some (Sum.inr (o, p)))) >>= fun q => match q with | (Sum.inl (r, s)) => some (r, s) | (Sum.inr (t, u)) => fy fu b c t u (aj (a + 1))) else some (d, e)))
theorem jO {fu a b c d e} : Le (fy fu a b c d e) (aW a b c d e) := by
  induction fu generalizing a b c d e with
  | zero => exact Le.none
  | succ fu ih =>
    rw [aW]
    exact (lb (li lr lr) fun _ => (li (lb (li (li (lb jv fun f => (match f with | (Sum.inl (i, j)) => lr | (Sum.inr (k, l)) => lr)) lr) (lb jD fun g => (match g with | (Sum.inl (m, n)) => lr | (Sum.inr (o, p)) => lr))) fun h => (match h with | (Sum.inl (q, r)) => lr | (Sum.inr (s, t)) => ih)) lr))
def gW (fu : Nat) (a1 : aX) (a : ak) (d : List ak) : Option (ai) :=
  (if (0 : Int) ≤ 0 ∧ 0 < (a.slices.length : Int) then (fy fu a d ([] : List ac) 0 0 >>= fun (b, c) => ((if 0 < (b.length : Int) then (bj a >>= fun e => (eI fu a.notes >>= fun f => some (decide ((aj (c + e)) ≤ (aj (a1.Paper.Height - f)))))) else some false) >>= fun g => (if g = true then (if (0 : Int) ≤ 0 ∧ 0 < (b.length : Int) then (dS fu (⟨a1, ([] : List ac), ([] : List ac), ([0] : List Int)⟩ : ai) b ((b.getD (Int.toNat 0) aa).Y) 0 >>= fun h => (cJ fu h a c >>= fun i => some i)) else none) else (cJ fu (⟨a1, ([] : List ac), ([] : List ac), ([0] : List Int)⟩ : ai) a 0 >>= fun j => some j)))) else none)
theorem kL {fu a1 a b} : Le (gW fu a1 a b) (cV a1 a b) := by
  unfold gW cV
  exact (li (lb jO fun _ => (lb (li (lb lr fun _ => (lb fH fun _ => lr)) lr) fun _ => (li (li (lb ge fun _ => (lb dE fun _ => lr)) lr) (lb dE fun _ => lr)))) lr)
def d8 (fu : Nat) {σ : Type} (φ : σ → ak → Option (σ × Bool)) (a3 : List ac) (c : List Bool) (h : Bool) (a : Int) (b : List ac) (d : List ac) (e : Int) (f : σ) : Option (Sum ((List ac) × (List ac) × Int × σ) ((List ac) × (List ac) × Int × σ)) := match fu with
  | 0 => none
  | fu + 1 => (if a < (a3.length : Int) then ((if (0 : Int) ≤ a ∧ a < (a3.length : Int) then (if ((a3.getD (Int.toNat a) aa).Note) = true then (if d.length + 1 ≤ 2199023255552 then some (Sum.inr (h, b, d ++ [(a3.getD (Int.toNat a) aa)], e, f)) else none) else ((if 0 < (b.length : Int) then some (decide (e ≤ ((a3.getD (Int.toNat a) aa).Y))) else some false) >>= fun i => ((if i = true then some (!h) else some false) >>= fun j => (if j = true then (φ f (⟨b, d, e⟩ : ak) >>= fun (g, k) => (if (!k) = true then some (Sum.inl g) else (if (([] : List ac).length : Int) = 0 then (if ([] : List ac).length + 1 ≤ 2199023255552 then (if (0 : Int) ≤ a ∧ a < (c.length : Int) then some (Sum.inr (c.getD (Int.toNat a) false, ([] : List ac) ++ [(a3.getD (Int.toNat a) aa)], ([] : List ac), max ((a3.getD (Int.toNat a) aa).Y) (aj (((a3.getD (Int.toNat a) aa).Y) + ((a3.getD (Int.toNat a) aa).H))), g)) else none) else none) else (if ([] : List ac).length + 1 ≤ 2199023255552 then (if (0 : Int) ≤ a ∧ a < (c.length : Int) then some (Sum.inr (c.getD (Int.toNat a) false, ([] : List ac) ++ [(a3.getD (Int.toNat a) aa)], ([] : List ac), max 0 (aj (((a3.getD (Int.toNat a) aa).Y) + ((a3.getD (Int.toNat a) aa).H))), g)) else none) else none)))) else (if (b.length : Int) = 0 then (if b.length + 1 ≤ 2199023255552 then (if (0 : Int) ≤ a ∧ a < (c.length : Int) then some (Sum.inr (c.getD (Int.toNat a) false, b ++ [(a3.getD (Int.toNat a) aa)], d, max ((a3.getD (Int.toNat a) aa).Y) (aj (((a3.getD (Int.toNat a) aa).Y) + ((a3.getD (Int.toNat a) aa).H))), f)) else none) else none) else (if b.length + 1 ≤ 2199023255552 then (if (0 : Int) ≤ a ∧ a < (c.length : Int) then some (Sum.inr (c.getD (Int.toNat a) false, b ++ [(a3.getD (Int.toNat a) aa)], d, max e (aj (((a3.getD (Int.toNat a) aa).Y) + ((a3.getD (Int.toNat a) aa).H))), f)) else none) else none)))))) else none) >>= fun l => match l with | (Sum.inl m) => some (Sum.inl (b, d, e, m)) | (Sum.inr (n, o, p, q, r)) => d8 fu φ a3 c n (aj (a + 1)) o p q r) else some (Sum.inr (b, d, e, f)))
theorem ii {fu σ φ a3 a b c d e f g} {φ' : σ → ak → Option (σ × Bool)} (hφ : ∀ s x, Le (φ' s x) (φ s x)) : Le (d8 fu φ' a3 a b c d e f g) (bB φ a3 a b c d e f g) := by
  induction fu generalizing a3 a b c d e f g with
  | zero => exact Le.none
  | succ fu ih =>
    rw [bB]
    exact (li (lb (li (li (li lr lr) (lb (li lr lr) fun _ => (lb (li lr lr) fun _ => (li (lb (hφ _ _) fun _ => (li lr (li (li (li lr lr) lr) (li (li lr lr) lr)))) (li (li (li lr lr) lr) (li (li lr lr) lr)))))) lr) fun h => (match h with | (Sum.inl i) => lr | (Sum.inr (j, k, l, m, n)) => ih)) lr)
def fe (fu : Nat) {σ : Type} (φ : σ → ak → Option (σ × Bool)) (sy : σ) (a3 : List ac) (d : List Bool) : Option (σ) :=
  (d8 fu φ a3 d false 0 ([] : List ac) ([] : List ac) 0 sy >>= fun e => match e with | (Sum.inl (i, j, k, f)) => some f | (Sum.inr (a, b, g, c)) => (if 0 < (aj ((a.length : Int) + (b.length : Int))) then (φ c (⟨a, b, g⟩ : ak) >>= fun (h, l) => some h) else some c))
theorem jz {fu σ φ sy a3 a} {φ' : σ → ak → Option (σ × Bool)} (hφ : ∀ s x, Le (φ' s x) (φ s x)) : Le (fe fu φ' sy a3 a) (dl φ sy a3 a) := by
  unfold fe dl
  exact (lb (ii hφ) fun b => (match b with | (Sum.inl (c, d, e, f)) => lr | (Sum.inr (g, h, i, j)) => (li (lb (hφ _ _) fun _ => lr) lr)))
def dQ (fu : Nat) (a3 : ai) (b : Int) (a : Int) : Option (Int) := match fu with
  | 0 => none
  | fu + 1 => (if a < (a3.fills.length : Int) then (if (0 : Int) ≤ a ∧ a < (a3.fills.length : Int) then dQ fu a3 (max b (a3.fills.getD (Int.toNat a) (0 : Int))) (aj (a + 1)) else none) else some b)
theorem gJ {fu a3 a b} : Le (dQ fu a3 a b) (aZ a3 a b) := by
  induction fu generalizing a3 a b with
  | zero => exact Le.none
  | succ fu ih =>
    rw [aZ]
    exact (li (li ih lr) lr)
def dM (fu : Nat) (a3 : ai) : Option (Int) :=
  (dQ fu a3 0 0 >>= fun a => some a)
theorem fM {fu a3} : Le (dM fu a3) (b7 a3) := by
  unfold dM b7
  exact (lb gJ fun _ => lr)
def eN (fu : Nat) (a3 : ai) (c : ak) (f : Int) : Option (Bool × ai) :=
  (eI fu a3.notes >>= fun d => (eI fu c.notes >>= fun e => (if (0 : Int) ≤ aj ((a3.fills.length : Int) - 1) ∧ aj ((a3.fills.length : Int) - 1) < (a3.fills.length : Int) then ((dM fu a3 >>= fun g => (if (aj ((aj (a3.sheet.Paper.Height - d)) - e)) < g then some (Sum.inr ()) else (bj c >>= fun h => (if (aj ((aj ((a3.fills.getD (Int.toNat (aj ((a3.fills.length : Int) - 1))) (0 : Int)) + f)) + h)) ≤ (aj ((aj (a3.sheet.Paper.Height - d)) - e)) then (cJ fu a3 c (aj ((a3.fills.getD (Int.toNat (aj ((a3.fills.length : Int) - 1))) (0 : Int)) + f)) >>= fun a => some (Sum.inl (a.sheet.Paper.Width, a.sheet.Paper.Height, a.sheet.Paper.Columns, a.sheet.Paper.Gap, a.sheet.Paper.Scale, a.sheet.Paper.Lang, a.placed, a.notes, a.fills))) else ((if (a3.fills.length : Int) < a3.sheet.Paper.Columns then (bj c >>= fun i => some (decide (i ≤ (aj ((aj (a3.sheet.Paper.Height - d)) - e))))) else some false) >>= fun j => (if j = true then (if a3.fills.length + 1 ≤ 17592186044416 then (cJ fu (⟨a3.sheet, a3.placed, a3.notes, a3.fills ++ [0]⟩ : ai) c 0 >>= fun b => some (Sum.inl (b.sheet.Paper.Width, b.sheet.Paper.Height, b.sheet.Paper.Columns, b.sheet.Paper.Gap, b.sheet.Paper.Scale, b.sheet.Paper.Lang, b.placed, b.notes, b.fills))) else none) else some (Sum.inr ()))))))) >>= fun k => match k with | (Sum.inl (l, m, n, o, p, q, r, s, t)) => some (true, (⟨(⟨(⟨l, m, n, o, p, q⟩ : ax)⟩ : aX), r, s, t⟩ : ai)) | (Sum.inr _) => some (false, a3)) else none)))
theorem iR {fu a3 a b} : Le (eN fu a3 a b) (cq a3 a b) := by
  unfold eN cq
  exact (lb fH fun _ => (lb fH fun _ => (li (lb (lb fM fun _ => (li lr (lb lr fun _ => (li (lb dE fun _ => lr) (lb (li (lb lr fun _ => lr) lr) fun _ => (li (li (lb dE fun _ => lr) lr) lr)))))) fun c => (match c with | (Sum.inl (d, e, f, g, h, i, j, k, l)) => lr | (Sum.inr _) => lr)) lr)))
def dt (fu : Nat) (a3 : ai) (c : Int) (a : Int) (b : List ac) : Option ((List ac)) := match fu with
  | 0 => none
  | fu + 1 => (if a < (a3.notes.length : Int) then (if (0 : Int) ≤ a ∧ a < (a3.notes.length : Int) then (if b.length + 1 ≤ 2199023255552 then dt fu a3 (aj (c + ((a3.notes.getD (Int.toNat a) aa).H))) (aj (a + 1)) (b ++ [(⟨(a3.notes.getD (Int.toNat a) aa).Node, (a3.notes.getD (Int.toNat a) aa).Table, (a3.notes.getD (Int.toNat a) aa).X, c, (a3.notes.getD (Int.toNat a) aa).H, (a3.notes.getD (Int.toNat a) aa).Text, (a3.notes.getD (Int.toNat a) aa).Head, (a3.notes.getD (Int.toNat a) aa).Note⟩ : ac)]) else none) else none) else some b)
theorem gu {fu a3 a b c} : Le (dt fu a3 a b c) (aS a3 a b c) := by
  induction fu generalizing a3 a b c with
  | zero => exact Le.none
  | succ fu ih =>
    rw [aS]
    exact (li (li (li ih lr) lr) lr)
def eA (fu : Nat) (a3 : ai) (a : Int) : Option (ap) :=
  (eI fu a3.notes >>= fun b => (dM fu a3 >>= fun c => (dt fu a3 (max (aj (a3.sheet.Paper.Height - b)) c) 0 a3.placed >>= fun d => some (⟨a, d⟩ : ap))))
theorem iJ {fu a3 a} : Le (eA fu a3 a) (cc a3 a) := by
  unfold eA cc
  exact (lb fH fun _ => (lb fM fun _ => (lb gu fun _ => lr)))
def fb (fu : Nat) (a3 : Option ai) (a : List ap) : Option ((List ap)) :=
  (match a3 with | none => some a | some b => (eA fu b (aj ((a.length : Int) + 1)) >>= fun c => (if a.length + 1 ≤ 4398046511104 then some (a ++ [c]) else none)))
theorem jy {fu a3 a} : Le (fb fu a3 a) (cM a3 a) := by
  unfold fb cM
  exact (match a3 with | none => lr | some b => (lb iJ fun _ => (li lr lr)))
def dN (fu : Nat) (a3 : ai) (b : Int) (a : Int) : Option (Int) := match fu with
  | 0 => none
  | fu + 1 => (if a < (a3.fills.length : Int) then (if (0 : Int) ≤ a ∧ a < (a3.fills.length : Int) then dN fu a3 (max b (a3.fills.getD (Int.toNat a) (0 : Int))) (aj (a + 1)) else none) else some b)
theorem gK {fu a3 a b} : Le (dN fu a3 a b) (a9 a3 a b) := by
  induction fu generalizing a3 a b with
  | zero => exact Le.none
  | succ fu ih =>
    rw [a9]
    exact (li (li ih lr) lr)
def eL (fu : Nat) (a3 : ai) : Option (Int) :=
  (dN fu a3 0 0 >>= fun a => some a)
theorem iW {fu a3} : Le (eL fu a3) (ct a3) := by
  unfold eL ct
  exact (lb gK fun _ => lr)
def dr (fu : Nat) (a3 : ai) (c : Int) (a : Int) (b : List ac) : Option ((List ac)) := match fu with
  | 0 => none
  | fu + 1 => (if a < (a3.notes.length : Int) then (if (0 : Int) ≤ a ∧ a < (a3.notes.length : Int) then (if b.length + 1 ≤ 2199023255552 then dr fu a3 (aj (c + ((a3.notes.getD (Int.toNat a) aa).H))) (aj (a + 1)) (b ++ [(⟨(a3.notes.getD (Int.toNat a) aa).Node, (a3.notes.getD (Int.toNat a) aa).Table, (a3.notes.getD (Int.toNat a) aa).X, c, (a3.notes.getD (Int.toNat a) aa).H, (a3.notes.getD (Int.toNat a) aa).Text, (a3.notes.getD (Int.toNat a) aa).Head, (a3.notes.getD (Int.toNat a) aa).Note⟩ : ac)]) else none) else none) else some b)
theorem gw {fu a3 a b c} : Le (dr fu a3 a b c) (aT a3 a b c) := by
  induction fu generalizing a3 a b c with
  | zero => exact Le.none
  | succ fu ih =>
    rw [aT]
    exact (li (li (li ih lr) lr) lr)
def ey (fu : Nat) (a3 : ai) (a : Int) : Option (ap) :=
  (eI fu a3.notes >>= fun b => (eL fu a3 >>= fun c => (dr fu a3 (max (aj (a3.sheet.Paper.Height - b)) c) 0 a3.placed >>= fun d => some (⟨a, d⟩ : ap))))
theorem iN {fu a3 a} : Le (ey fu a3 a) (cd a3 a) := by
  unfold ey cd
  exact (lb fH fun _ => (lb iW fun _ => (lb gw fun _ => lr)))
def ec (fu : Nat) (a3 : Option ai) (a : List ap) : Option ((List ap)) :=
  (match a3 with | none => some a | some b => (ey fu b (aj ((a.length : Int) + 1)) >>= fun c => (if a.length + 1 ≤ 4398046511104 then some (a ++ [c]) else none)))
theorem gr {fu a3 a} : Le (ec fu a3 a) (ca a3 a) := by
  unfold ec ca
  exact (match a3 with | none => lr | some b => (lb iN fun _ => (li lr lr)))
def fj (fu : Nat) (a1 : ax) (e : Option ai) (f : Bool) (a : List ak) (c : List ap) (b : ak) : Option (((Option ai) × Bool × (List ak) × (List ap)) × Option Nat) :=
  (if (b.slices.length : Int) = 0 then some (((some (⟨(⟨a1⟩ : aX), ([] : List ac), b.notes, ([0] : List Int)⟩ : ai)), false, a, c), (some 0)) else ((match e with | none => some (true, (none : Option ai)) | some g => (if f = true then (cG b >>= fun h => (if (0 : Int) ≤ aj ((a.length : Int) - 1) ∧ aj ((a.length : Int) - 1) < (a.length : Int) then (eN fu g b (max 0 (aj (h - ((a.getD (Int.toNat (aj ((a.length : Int) - 1))) am).end_)))) >>= fun (i, j) => some (!i, (some j))) else none)) else none)) >>= fun (k, d) => (if k = true then (fb fu d c >>= fun l => (gW fu (⟨a1⟩ : aX) b a >>= fun m => (if a.length + 1 ≤ 2513169434916 then some (((some m), true, a ++ [b], l), none) else none))) else (if a.length + 1 ≤ 2513169434916 then some ((d, true, a ++ [b], c), none) else none))))
theorem jB {fu a1 a b c d e} : Le (fj fu a1 a b c d e) (aU a1 a b c d e) := by
  unfold fj aU
  exact (li lr (lb (match a with | none => lr | some f => (li (lb lr fun _ => (li (lb iR fun _ => lr) lr)) lr)) fun _ => (li (lb jy fun _ => (lb kL fun _ => (li lr lr))) (li lr lr))))
def eu (fu : Nat) (a1 : ax) (a : List ac) (a7 : List Bool) : Option ((List ap) × Int) :=
  (eT fu (⟨a1⟩ : aX) >>= fun f => ((if (!f) = true then some true else (fW fu a a7 >>= fun g => some (!g))) >>= fun h => (if h = true then some (([] : List ap), 1) else (gb a a7 >>= fun (i, j) => (fe fu (n3 (fun (u : (Option ai) × Bool × (List ak) × (List ap)) (x : ak) => fj fu a1 u.1 u.2.1 u.2.2.1 u.2.2.2 x)) (((none : Option ai), true, ([] : List ak), ([] : List ap)), none) i j >>= fun ((b, l, m, c), k) => match k with | none => (ec fu b c >>= fun d => (if 500 < (d.length : Int) then some (([] : List ap), 2) else some (d, 0))) | some 0 => (ec fu b c >>= fun e => (if 500 < (e.length : Int) then some (([] : List ap), 2) else some (e, 0))) | some _ => none)))))
theorem fB {fu a1 a a7} : Le (eu fu a1 a a7) (cz a1 a a7) := by
  unfold eu cz
  exact (lb jk fun _ => (lb (li lr (lb j1 fun _ => lr)) fun _ => (li lr (lb lr fun _ => (lb (jz (qm fun _ _ => jB)) fun ((c, d, e, f), b) => (match b with | none => (lb gr fun _ => (li lr lr)) | some 0 => (lb gr fun _ => (li lr lr)) | some (_ + 1) => lr))))))
def cj (fu : Nat) (a1 : List ac) (b : Int) (a : Int) : Option (Sum Int Unit) := match fu with
  | 0 => none
  | fu + 1 => (if a < (a1.length : Int) then (if (0 : Int) ≤ a ∧ a < (a1.length : Int) then (e7 (a1.getD (Int.toNat a) aa) b >>= fun c => (if c = true then some (Sum.inl a) else cj fu a1 b (aj (a + 1)))) else none) else some (Sum.inr ()))
theorem eV {fu a1 a b} : Le (cj fu a1 a b) (bo a1 a b) := by
  induction fu generalizing a1 a b with
  | zero => exact Le.none
  | succ fu ih =>
    rw [bo]
    exact (li (li (lb lr fun _ => (li lr ih)) lr) lr)
def cK (fu : Nat) (a1 : List ac) (a : Int) : Option (Int) :=
  (cj fu a1 a 0 >>= fun b => match b with | (Sum.inl c) => some c | (Sum.inr _) => some (-1))
theorem fE {fu a1 a} : Le (cK fu a1 a) (bM a1 a) := by
  unfold cK bM
  exact (lb eV fun b => (match b with | (Sum.inl c) => lr | (Sum.inr _) => lr))
def cr (fu : Nat) (a1 : List ac) (a : Int) : Option (Bool) :=
  (cK fu a1 a >>= fun b => some (decide (0 ≤ b)))
theorem eY {fu a1 a} : Le (cr fu a1 a) (bD a1 a) := by
  unfold cr bD
  exact (lb fE fun _ => lr)
def fR (fu : Nat) (a1 : List ap) (a6 : Int) (a : Int) : Option (Sum Int Unit) := match fu with
  | 0 => none
  | fu + 1 => (if a < (a1.length : Int) then (if (0 : Int) ≤ a ∧ a < (a1.length : Int) then (cr fu ((a1.getD (Int.toNat a) av).Slices) a6 >>= fun b => (if b = true then some (Sum.inl ((a1.getD (Int.toNat a) av).Number)) else fR fu a1 a6 (aj (a + 1)))) else none) else some (Sum.inr ()))
theorem j4 {fu a1 a6 a} : Le (fR fu a1 a6 a) (eH a1 a6 a) := by
  induction fu generalizing a1 a6 a with
  | zero => exact Le.none
  | succ fu ih =>
    rw [eH]
    exact (li (li (lb eY fun _ => (li lr ih)) lr) lr)
def gy (fu : Nat) (a1 : List ap) (a6 : Int) : Option (Int × Bool) :=
  (fR fu a1 a6 0 >>= fun a => match a with | (Sum.inl b) => some (b, true) | (Sum.inr _) => some (0, false))
theorem jF {fu a1 a6} : Le (gy fu a1 a6) (fY a1 a6) := by
  unfold gy fY
  exact (lb j4 fun a => (match a with | (Sum.inl b) => lr | (Sum.inr _) => lr))
def dg (fu : Nat) (a1 : List ac) (a6 : List ac) (a : Int) : Option (Sum Unit Unit) := match fu with
  | 0 => none
  | fu + 1 => (if a < (a1.length : Int) then (if (0 : Int) ≤ a ∧ a < (a1.length : Int) then (if (0 : Int) ≤ a ∧ a < (a6.length : Int) then (if ¬ (a1.getD (Int.toNat a) aa) = (a6.getD (Int.toNat a) aa) then some (Sum.inl ()) else dg fu a1 a6 (aj (a + 1))) else none) else none) else some (Sum.inr ()))
theorem gi {fu a1 a6 a} : Le (dg fu a1 a6 a) (cb a1 a6 a) := by
  induction fu generalizing a1 a6 a with
  | zero => exact Le.none
  | succ fu ih =>
    rw [cb]
    exact (li (li (li (li lr ih) lr) lr) lr)
def dW (fu : Nat) (a1 : List ac) (a6 : List ac) : Option (Bool) :=
  (if ¬ (a1.length : Int) = (a6.length : Int) then some false else (dg fu a1 a6 0 >>= fun a => match a with | (Sum.inl _) => some false | (Sum.inr _) => some true))
theorem hZ {fu a1 a6} : Le (dW fu a1 a6) (cL a1 a6) := by
  unfold dW cL
  exact (li lr (lb gi fun a => (match a with | (Sum.inl _) => lr | (Sum.inr _) => lr)))
def eB (fu : Nat) (a1 : List ap) (a6 : List ap) (a : Int) : Option (Sum Unit Unit) := match fu with
  | 0 => none
  | fu + 1 => (if a < (a1.length : Int) then ((if (0 : Int) ≤ a ∧ a < (a1.length : Int) then (if (0 : Int) ≤ a ∧ a < (a6.length : Int) then (if ¬ ((a1.getD (Int.toNat a) av).Number) = ((a6.getD (Int.toNat a) av).Number) then some true else (if (0 : Int) ≤ a ∧ a < (a1.length : Int) then (if (0 : Int) ≤ a ∧ a < (a6.length : Int) then (dW fu ((a1.getD (Int.toNat a) av).Slices) ((a6.getD (Int.toNat a) av).Slices) >>= fun b => some (!b)) else none) else none)) else none) else none) >>= fun c => (if c = true then some (Sum.inl ()) else eB fu a1 a6 (aj (a + 1)))) else some (Sum.inr ()))
theorem ix {fu a1 a6 a} : Le (eB fu a1 a6 a) (de a1 a6 a) := by
  induction fu generalizing a1 a6 a with
  | zero => exact Le.none
  | succ fu ih =>
    rw [de]
    exact (li (lb (li (li (li lr (li (li (lb hZ fun _ => lr) lr) lr)) lr) lr) fun _ => (li lr ih)) lr)
def dG (fu : Nat) (a1 : List ap) (a6 : List ap) : Option (Bool) :=
  (if ¬ (a1.length : Int) = (a6.length : Int) then some false else (eB fu a1 a6 0 >>= fun a => match a with | (Sum.inl _) => some false | (Sum.inr _) => some true))
theorem fk {fu a1 a6} : Le (dG fu a1 a6) (da a1 a6) := by
  unfold dG da
  exact (li lr (lb ix fun a => (match a with | (Sum.inl _) => lr | (Sum.inr _) => lr)))
def gU (fu : Nat) : Option (Bool) :=
  (bU 1 >>= fun b => (b8 >>= fun c => (if (0 : Int) ≤ 4 ∧ (1 : Int) * 4 ≤ 281474976710656 ∧ (4 : Int) ≤ 9223372036854775807 then (eu fu b c (List.replicate (Int.toNat 4) false) >>= fun (d, e) => (bU 1 >>= fun f => (b8 >>= fun g => (eu fu f g ([false, true, false, false] : List Bool) >>= fun (a, h) => (bU 2 >>= fun i => (b8 >>= fun j => (if (0 : Int) ≤ 4 ∧ (1 : Int) * 4 ≤ 281474976710656 ∧ (4 : Int) ≤ 9223372036854775807 then (eu fu i j (List.replicate (Int.toNat 4) false) >>= fun (k, l) => (bU 1 >>= fun m => (b8 >>= fun n => (eu fu m n ([] : List Bool) >>= fun (R, o) => (gy fu a 4 >>= fun (p, q) => (gy fu a 5 >>= fun (S, r) => ((if e = 0 then some (decide (h = 0)) else some false) >>= fun s => ((if s = true then some (decide (l = 0)) else some false) >>= fun t => ((if t = true then some (decide (o = 1)) else some false) >>= fun u => ((if u = true then some (decide (p = 3)) else some false) >>= fun v => ((if v = true then some q else some false) >>= fun w => ((if w = true then some (!r) else some false) >>= fun x => ((if x = true then (aJ 1 0 0 >>= fun y => (aJ 2 0 12 >>= fun A => (aJ 3 0 0 >>= fun B => (aJ 4 0 12 >>= fun C => (dG fu d ([(⟨1, ([y, A] : List ac)⟩ : ap), (⟨2, ([B, C] : List ac)⟩ : ap)] : List ap) >>= fun D => some D))))) else some false) >>= fun E => ((if E = true then (aJ 1 0 0 >>= fun F => (aJ 2 0 0 >>= fun G => (aJ 3 0 12 >>= fun H => (aJ 4 0 0 >>= fun I => (dG fu a ([(⟨1, ([F] : List ac)⟩ : ap), (⟨2, ([G, H] : List ac)⟩ : ap), (⟨3, ([I] : List ac)⟩ : ap)] : List ap) >>= fun J => some J))))) else some false) >>= fun K => ((if K = true then (aJ 1 0 0 >>= fun L => (aJ 2 0 12 >>= fun M => (aJ 3 300 0 >>= fun N => (aJ 4 300 12 >>= fun O => (dG fu k ([(⟨1, ([L, M, N, O] : List ac)⟩ : ap)] : List ap) >>= fun P => some P))))) else some false) >>= fun Q => some Q))))))))))))))) else none))))))) else none)))
theorem jQ {fu} : Le (gU fu) (dD) := by
  unfold gU dD
  exact (lb lr fun _ => (lb lr fun _ => (li (lb fB fun _ => (lb lr fun _ => (lb lr fun _ => (lb fB fun _ => (lb lr fun _ => (lb lr fun _ => (li (lb fB fun _ => (lb lr fun _ => (lb lr fun _ => (lb fB fun _ => (lb jF fun _ => (lb jF fun _ => (lb (li lr lr) fun _ => (lb (li lr lr) fun _ => (lb (li lr lr) fun _ => (lb (li lr lr) fun _ => (lb (li lr lr) fun _ => (lb (li lr lr) fun _ => (lb (li (lb lr fun _ => (lb lr fun _ => (lb lr fun _ => (lb lr fun _ => (lb fk fun _ => lr))))) lr) fun _ => (lb (li (lb lr fun _ => (lb lr fun _ => (lb lr fun _ => (lb lr fun _ => (lb fk fun _ => lr))))) lr) fun _ => (lb (li (lb lr fun _ => (lb lr fun _ => (lb lr fun _ => (lb lr fun _ => (lb fk fun _ => lr))))) lr) fun _ => lr))))))))))))))) lr))))))) lr)))
end Go.Proofs.Ytlcfemplcaejgaa.LG
