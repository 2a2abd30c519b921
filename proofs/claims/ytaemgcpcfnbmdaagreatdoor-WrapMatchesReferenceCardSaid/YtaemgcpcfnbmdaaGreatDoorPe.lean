/-
  The plain functions with fuel, so that the kernel can compute them: printed by a program.
-/
import Derived.Test.YtaemgcpcfnbmdaaGreatDoorPd
import Derived.KernelRfl
set_option linter.unusedVariables false
set_option maxRecDepth 100000
namespace Go.Proofs.YtaemgcpcfnbmdaaGreatDoor.LG
open Go Go.LG
def Le {α : Type} (x y : Option α) : Prop := ∀ r, x = some r → y = some r
theorem Le.rfl {α : Type} {x : Option α} : Le x x := fun _ h => h
theorem Le.none {α : Type} {x : Option α} : Le none x := fun _ h => nomatch h
theorem Le.bind {α β : Type} {x y : Option α} {f g : α → Option β} (h : Le x y) (k : ∀ a, Le (f a) (g a)) : Le (x >>= f) (y >>= g) := by
  intro r hr
  cases x with
  | none => cases hr
  | some a => rw [h a _root_.rfl]; exact k a r hr
theorem Le.ite {α : Type} {c : Prop} [Decidable c] {x y x' y' : Option α} (h : Le x x') (k : Le y y') : Le (if c then x else y) (if c then x' else y') := by
  by_cases hc : c
  · rw [if_pos hc, if_pos hc]; exact h
  · rw [if_neg hc, if_neg hc]; exact k
theorem lb {α β : Type} {x y : Option α} {f g : α → Option β} (h : Le x y) (k : ∀ a, Le (f a) (g a)) : Le (x >>= f) (y >>= g) := Le.bind h k
theorem lr {α : Type} {x : Option α} : Le x x := Le.rfl
theorem li {α : Type} {c : Prop} [Decidable c] {x y x' y' : Option α} (h : Le x x') (k : Le y y') : Le (if c then x else y) (if c then x' else y') := Le.ite h k
theorem rh {U α : Type} {φ φ' : U → α → Option (U × Option Nat)} (h : ∀ u x, Le (φ' u x) (φ u x)) : ∀ s x, Le (j5 φ' s x) (j5 φ s x) := fun s x => by
  unfold j5
  split
  · exact Le.rfl
  · exact Le.bind (h _ _) fun _ => Le.rfl
def jw (fu : Nat) (a1 : List an) (a6 : List an) (a : Int) : Option (Sum Unit Unit) := match fu with
  | 0 => none
  | fu + 1 => (if a < (a1.length : Int) then (if (0 : Int) ≤ a ∧ a < (a1.length : Int) then (if (0 : Int) ≤ a ∧ a < (a6.length : Int) then (if ¬ (a1.getD (Int.toNat a) cu) = (a6.getD (Int.toNat a) cu) then some (Sum.inl ()) else jw fu a1 a6 (ax (a + 1))) else none) else none) else some (Sum.inr ()))
theorem o8 {fu a1 a6 a} : Le (jw fu a1 a6 a) (cL a1 a6 a) := by
  induction fu generalizing a1 a6 a with
  | zero => exact Le.none
  | succ fu ih =>
    rw [cL]
    exact (li (li (li (li lr ih) lr) lr) lr)
def jG (fu : Nat) (a1 : List an) (a6 : List an) : Option (Bool) :=
  (if ¬ (a1.length : Int) = (a6.length : Int) then some false else (jw fu a1 a6 0 >>= fun a => match a with | (Sum.inl _) => some false | (Sum.inr _) => some true))
theorem nn {fu a1 a6} : Le (jG fu a1 a6) (ec a1 a6) := by
  unfold jG ec
  exact (li lr (lb o8 fun a => (match a with | (Sum.inl _) => lr | (Sum.inr _) => lr)))
def cG (fu : Nat) (a1 : List aA) (a6 : Int) (a : Int) (b : Int) : Option (Int) := match fu with
  | 0 => none
  | fu + 1 => (if a < b then (if (0 : Int) ≤ ax (Int.fdiv (IntKind.wrap .u64 (ax (a + b))) (2 ^ 1)) ∧ ax (Int.fdiv (IntKind.wrap .u64 (ax (a + b))) (2 ^ 1)) < (a1.length : Int) then (iA (a1.getD (Int.toNat (ax (Int.fdiv (IntKind.wrap .u64 (ax (a + b))) (2 ^ 1)))) ao) a6 >>= fun c => (if c < 0 then cG fu a1 a6 (ax ((ax (Int.fdiv (IntKind.wrap .u64 (ax (a + b))) (2 ^ 1))) + 1)) b else cG fu a1 a6 a (ax (Int.fdiv (IntKind.wrap .u64 (ax (a + b))) (2 ^ 1))))) else none) else some a)
theorem jN {fu a1 a6 a b} : Le (cG fu a1 a6 a b) (aI a1 a6 a b) := by
  induction fu generalizing a1 a6 a b with
  | zero => exact Le.none
  | succ fu ih =>
    rw [aI]
    exact (li (li (lb lr fun _ => (li ih ih)) lr) lr)
def eO (fu : Nat) (a1 : List aA) (a6 : Int) : Option (Int × Bool) :=
  (cG fu a1 a6 0 (a1.length : Int) >>= fun a => ((if a < (a1.length : Int) then (if (0 : Int) ≤ a ∧ a < (a1.length : Int) then (iA (a1.getD (Int.toNat a) ao) a6 >>= fun b => some (decide (b = 0))) else none) else some false) >>= fun c => some (a, c)))
theorem kM {fu a1 a6} : Le (eO fu a1 a6) (bJ a1 a6) := by
  unfold eO bJ
  exact (lb jN fun _ => (lb (li (li (lb lr fun _ => lr) lr) lr) fun _ => lr))
def kq (fu : Nat) (a1 : List aA) (a6 : Int) : Option (aA × Bool) :=
  (eO fu a1 a6 >>= fun (a, b) => (if (!b) = true then some ((⟨0, 0⟩ : aA), false) else (if (0 : Int) ≤ a ∧ a < (a1.length : Int) then some ((a1.getD (Int.toNat a) ao), true) else none)))
theorem qb {fu a1 a6} : Le (kq fu a1 a6) (eT a1 a6) := by
  unfold kq eT
  exact (lb kM fun _ => (li lr (li lr lr)))
def kb (fu : Nat) (a1 : ai) (a10 : Int) : Option (aA × Bool) :=
  (kq fu a1.Glyphs a10 >>= fun (a, b) => some (a, b))
theorem mp {fu a1 a10} : Le (kb fu a1 a10) (fE a1 a10) := by
  unfold kb fE
  exact (lb qb fun _ => lr)
def mg (fu : Nat) (a1 : List Int) (a : Int) : Option (Sum Int Unit) := match fu with
  | 0 => none
  | fu + 1 => (if a < (a1.length : Int) then (if (0 : Int) ≤ a ∧ a < (a1.length : Int) then (if ¬ (a1.getD (Int.toNat a) (0 : Int)) = 0 then some (Sum.inl (a1.getD (Int.toNat a) (0 : Int))) else mg fu a1 (ax (a + 1))) else none) else some (Sum.inr ()))
theorem sb {fu a1 a} : Le (mg fu a1 a) (fQ a1 a) := by
  induction fu generalizing a1 a with
  | zero => exact Le.none
  | succ fu ih =>
    rw [fQ]
    exact (li (li (li lr ih) lr) lr)
def pf (fu : Nat) (a1 : List Int) : Option (Int) :=
  (mg fu a1 0 >>= fun a => match a with | (Sum.inl b) => some b | (Sum.inr _) => some 0)
theorem uA {fu a1} : Le (pf fu a1) (kV a1) := by
  unfold pf kV
  exact (lb sb fun a => (match a with | (Sum.inl b) => lr | (Sum.inr _) => lr))
def ly (fu : Nat) (a1 : bX) (a2 : aO) : Option (Int) :=
  (cy a1.Left a2.left >>= fun a => (cy a1.Right a2.right >>= fun b => (pf fu ([a, b] : List Int) >>= fun c => some c)))
theorem oz {fu a1 a2} : Le (ly fu a1 a2) (gH a1 a2) := by
  unfold ly gH
  exact (lb lr fun _ => (lb lr fun _ => (lb uA fun _ => lr)))
def l9 (fu : Nat) (a1 : ai) (a : Int) : Option (Sum Unit Unit) := match fu with
  | 0 => none
  | fu + 1 => (if a < (a1.Glyphs.length : Int) then (if (0 : Int) ≤ a ∧ a < (a1.Glyphs.length : Int) then ((if ((a1.Glyphs.getD (Int.toNat a) ao).Byte) < 32 then some true else (if 126 ≤ ((a1.Glyphs.getD (Int.toNat a) ao).Byte) then some true else (if ((a1.Glyphs.getD (Int.toNat a) ao).Advance) < 0 then some true else (if 1000 < ((a1.Glyphs.getD (Int.toNat a) ao).Advance) then some true else (if 0 < a then (if (0 : Int) ≤ ax (a - 1) ∧ ax (a - 1) < (a1.Glyphs.length : Int) then some (decide (((a1.Glyphs.getD (Int.toNat a) ao).Byte) ≤ ((a1.Glyphs.getD (Int.toNat (ax (a - 1))) ao).Byte))) else none) else some false))))) >>= fun b => (if b = true then some (Sum.inl ()) else l9 fu a1 (ax (a + 1)))) else none) else some (Sum.inr ()))
theorem rW {fu a1 a} : Le (l9 fu a1 a) (cA a1 a) := by
  induction fu generalizing a1 a with
  | zero => exact Le.none
  | succ fu ih =>
    rw [cA]
    exact (li (li (lb (li lr (li lr (li lr (li lr (li (li lr lr) lr))))) fun _ => (li lr ih)) lr) lr)
def lz (fu : Nat) (a1 : ai) (a : Int) : Option (Sum Unit Unit) := match fu with
  | 0 => none
  | fu + 1 => (if a < (a1.Kerns.length : Int) then (if (0 : Int) ≤ a ∧ a < (a1.Kerns.length : Int) then (kb fu a1 ((a1.Kerns.getD (Int.toNat a) am).Left) >>= fun (b, c) => (kb fu a1 ((a1.Kerns.getD (Int.toNat a) am).Right) >>= fun (j, d) => ((if (!c) = true then some true else some (!d)) >>= fun e => ((if e = true then some true else some (decide (1000 < ((a1.Kerns.getD (Int.toNat a) am).By)))) >>= fun f => ((if f = true then some true else some (decide (((a1.Kerns.getD (Int.toNat a) am).By) < (ax (0 - b.Advance))))) >>= fun g => (if g = true then some (Sum.inl ()) else ((if 0 < a then (if (0 : Int) ≤ ax (a - 1) ∧ ax (a - 1) < (a1.Kerns.length : Int) then (ly fu (a1.Kerns.getD (Int.toNat (ax (a - 1))) am) (⟨(a1.Kerns.getD (Int.toNat a) am).Left, (a1.Kerns.getD (Int.toNat a) am).Right⟩ : aO) >>= fun h => some (decide (0 ≤ h))) else none) else some false) >>= fun i => (if i = true then some (Sum.inl ()) else lz fu a1 (ax (a + 1)))))))))) else none) else some (Sum.inr ()))
theorem rf {fu a1 a} : Le (lz fu a1 a) (cf a1 a) := by
  induction fu generalizing a1 a with
  | zero => exact Le.none
  | succ fu ih =>
    rw [cf]
    exact (li (li (lb mp fun _ => (lb mp fun _ => (lb (li lr lr) fun _ => (lb (li lr lr) fun _ => (lb (li lr lr) fun _ => (li lr (lb (li (li (lb oz fun _ => lr) lr) lr) fun _ => (li lr ih)))))))) lr) lr)
def lk (fu : Nat) (a1 : ai) : Option (Bool) :=
  ((if 94 < (a1.Glyphs.length : Int) then some true else some (decide (200 < (a1.Kerns.length : Int)))) >>= fun a => (if a = true then some false else (l9 fu a1 0 >>= fun b => match b with | (Sum.inl _) => some false | (Sum.inr _) => (lz fu a1 0 >>= fun c => match c with | (Sum.inl _) => some false | (Sum.inr _) => some true))))
theorem om {fu a1} : Le (lk fu a1) (aU a1) := by
  unfold lk aU
  exact (lb (li lr lr) fun _ => (li lr (lb rW fun a => (match a with | (Sum.inl _) => lr | (Sum.inr _) => (lb rf fun b => (match b with | (Sum.inl _) => lr | (Sum.inr _) => lr))))))
def ml (fu : Nat) (a1 : ByteArray) (a : Nat) : Option (Sum Nat Nat) := match fu with
  | 0 => none
  | fu + 1 => (if a < a1.size then ((if 126 < ((Utf8.decode a1 a).1 : Int) then some true else (dP (uG (((Utf8.decode a1 a).1 : Int))) >>= fun b => some (decide (b = 0)))) >>= fun c => (if c = true then some (Sum.inl (a + (Utf8.decode a1 a).2)) else ml fu a1 (a + (Utf8.decode a1 a).2))) else some (Sum.inr a))
theorem rP {fu a1 a} : Le (ml fu a1 a) (fR a1 a) := by
  induction fu generalizing a1 a with
  | zero => exact Le.none
  | succ fu ih =>
    rw [fR]
    exact (li (lb (li lr (lb lr fun _ => lr)) fun _ => (li lr ih)) lr)
def iz (fu : Nat) (a1 : ByteArray) : Option (Bool) :=
  (ml fu a1 0 >>= fun a => match a with | (Sum.inl b) => some false | (Sum.inr c) => some (decide ((a1.size : Int) ≤ 2000)))
theorem ju {fu a1} : Le (iz fu a1) (gf a1) := by
  unfold iz gf
  exact (lb rP fun a => (match a with | (Sum.inl b) => lr | (Sum.inr c) => lr))
def kO (fu : Nat) (a1 : ak) (a : Int) (b : List (ByteArray × Bool)) : Option (Sum (List (ByteArray × Bool)) (List (ByteArray × Bool))) := match fu with
  | 0 => none
  | fu + 1 => (if a < (a1.Keep.length : Int) then (if (0 : Int) ≤ a ∧ a < (a1.Keep.length : Int) then ((if ¬ ((a1.Keep.getD (Int.toNat a) (⟨#[]⟩ : ByteArray)).size : Int) = 2 then some true else (if (0 : Int) ≤ 0 ∧ 0 < ((a1.Keep.getD (Int.toNat a) (⟨#[]⟩ : ByteArray)).size : Int) then (fM (bt (a1.Keep.getD (Int.toNat a) (⟨#[]⟩ : ByteArray)) 0) >>= fun c => some (!c)) else none)) >>= fun d => ((if d = true then some true else (if (0 : Int) ≤ 1 ∧ 1 < ((a1.Keep.getD (Int.toNat a) (⟨#[]⟩ : ByteArray)).size : Int) then (fM (bt (a1.Keep.getD (Int.toNat a) (⟨#[]⟩ : ByteArray)) 1) >>= fun e => some (!e)) else none)) >>= fun f => ((if f = true then some true else some ((oo b (a1.Keep.getD (Int.toNat a) (⟨#[]⟩ : ByteArray))).getD false)) >>= fun g => (if g = true then some (Sum.inl b) else kO fu a1 (ax (a + 1)) (rj b (a1.Keep.getD (Int.toNat a) (⟨#[]⟩ : ByteArray)) true))))) else none) else some (Sum.inr b))
theorem qD {fu a1 a b} : Le (kO fu a1 a b) (dF a1 a b) := by
  induction fu generalizing a1 a b with
  | zero => exact Le.none
  | succ fu ih =>
    rw [dF]
    exact (li (li (lb (li lr (li (lb lr fun _ => lr) lr)) fun _ => (lb (li lr (li (lb lr fun _ => lr) lr)) fun _ => (lb (li lr lr) fun _ => (li lr ih)))) lr) lr)
def ne (fu : Nat) (a1 : ak) : Option (Bool) :=
  (gq a1.Before >>= fun a => ((if (!a) = true then some true else (gq a1.Behind >>= fun b => some (!b))) >>= fun c => ((if c = true then some true else some (decide (20 < (a1.Keep.length : Int)))) >>= fun d => (if d = true then some false else (kO fu a1 0 ([] : List (ByteArray × Bool)) >>= fun e => match e with | (Sum.inl f) => some false | (Sum.inr g) => some true)))))
theorem tf {fu a1} : Le (ne fu a1) (ja a1) := by
  unfold ne ja
  exact (lb lr fun _ => (lb (li lr (lb lr fun _ => lr)) fun _ => (lb (li lr lr) fun _ => (li lr (lb qD fun a => (match a with | (Sum.inl b) => lr | (Sum.inr c) => lr))))))
def jQ (fu : Nat) (a1 : ak) (a : Int) (b : List (ByteArray × Bool)) : Option ((List (ByteArray × Bool))) := match fu with
  | 0 => none
  | fu + 1 => (if a < (a1.Keep.length : Int) then (if (0 : Int) ≤ a ∧ a < (a1.Keep.length : Int) then jQ fu a1 (ax (a + 1)) (rj b (a1.Keep.getD (Int.toNat a) (⟨#[]⟩ : ByteArray)) true) else none) else some b)
theorem pH {fu a1 a b} : Le (jQ fu a1 a b) (dA a1 a b) := by
  induction fu generalizing a1 a b with
  | zero => exact Le.none
  | succ fu ih =>
    rw [dA]
    exact (li (li ih lr) lr)
def ma (fu : Nat) (a1 : ak) (a6 : ByteArray) : Option (Int × Int × (List ByteArray) × ByteArray × (List (ByteArray × Bool)) × Bool) :=
  (jQ fu a1 0 ([] : List (ByteArray × Bool)) >>= fun a => ((ne fu a1 >>= fun b => (if b = true then (iz fu a6 >>= fun c => some c) else some false)) >>= fun d => some (a1.Before, a1.Behind, a1.Keep, a6, a, d)))
theorem rz {fu a1 a6} : Le (ma fu a1 a6) (gO a1 a6) := by
  unfold ma gO
  exact (lb pH fun _ => (lb (lb tf fun _ => (li (lb ju fun _ => lr) lr)) fun _ => lr))
def fV (fu : Nat) (a1 : Int) (a2 : Int) (d : List ByteArray) (b : ByteArray) (e : List (ByteArray × Bool)) (c : List Int) (a : Int) : Option ((List Int) × Int) := match fu with
  | 0 => none
  | fu + 1 => (br a a1 a2 d b e >>= fun f => (if f = true then ((if (0 : Int) ≤ a ∧ a < (b.size : Int) then (if ¬ (bt b a) = 126 then (if (0 : Int) ≤ a ∧ a < (b.size : Int) then (if c.length + 1 ≤ 140737488355328 then some (c ++ [bt b a]) else none) else none) else some c) else none) >>= fun g => fV fu a1 a2 d b e g (ax (a + (-1)))) else some (c, a)))
theorem mi {fu a1 a2 a b c d e} : Le (fV fu a1 a2 a b c d e) (bQ a1 a2 a b c d e) := by
  induction fu generalizing a1 a2 a b c d e with
  | zero => exact Le.none
  | succ fu ih =>
    rw [bQ]
    exact (lb lr fun _ => (li (lb (li (li (li (li lr lr) lr) lr) lr) fun _ => ih) lr))
def fI (fu : Nat) (a1 : Int) (a2 : Int) (d : List ByteArray) (b : ByteArray) (e : List (ByteArray × Bool)) (c : List Int) (a : Int) : Option ((List Int) × Int) := match fu with
  | 0 => none
  | fu + 1 => (br a a1 a2 d b e >>= fun f => (if f = true then ((if (0 : Int) ≤ a ∧ a < (b.size : Int) then (if ¬ (bt b a) = 126 then (if (0 : Int) ≤ a ∧ a < (b.size : Int) then (if c.length + 1 ≤ 140737488355328 then some (c ++ [bt b a]) else none) else none) else some c) else none) >>= fun g => fI fu a1 a2 d b e g (ax (a + 1))) else some (c, a)))
theorem lT {fu a1 a2 a b c d e} : Le (fI fu a1 a2 a b c d e) (bI a1 a2 a b c d e) := by
  induction fu generalizing a1 a2 a b c d e with
  | zero => exact Le.none
  | succ fu ih =>
    rw [bI]
    exact (lb lr fun _ => (li (lb (li (li (li (li lr lr) lr) lr) lr) fun _ => ih) lr))
def ft (fu : Nat) (a1 : Int) (a2 : Int) (a : List ByteArray) (b : ByteArray) (c : List (ByteArray × Bool)) (d : Int) (e : Bool) : Option (ByteArray) :=
  (if e = true then (fV fu a1 a2 a b c ([] : List Int) (ax (d - 1)) >>= fun (f, h) => some (qI f)) else (fI fu a1 a2 a b c ([] : List Int) d >>= fun (g, i) => some (qI g)))
theorem jV {fu a1 a2 a b c d e} : Le (ft fu a1 a2 a b c d e) (bL a1 a2 a b c d e) := by
  unfold ft bL
  exact (li (lb mi fun _ => lr) (lb lT fun _ => lr))
def i7 (fu : Nat) (a1 : Int) (a2 : Int) (f : List ByteArray) (b : ByteArray) (e : List (ByteArray × Bool)) (a : Int) : Option (Bool) :=
  (ft fu a1 a2 f b e (ax (a - 1)) true >>= fun c => (ft fu a1 a2 f b e a false >>= fun d => ((if a < 2 then some true else (if (0 : Int) ≤ ax (a - 2) ∧ ax (a - 2) < (b.size : Int) then (gr (bt b (ax (a - 2))) >>= fun g => some (!g)) else none)) >>= fun h => ((if h = true then some true else some (decide ((c.size : Int) < a1))) >>= fun i => ((if i = true then some true else some (decide ((d.size : Int) < a2))) >>= fun j => (if j = true then some false else (if (0 : Int) ≤ 1 ∧ 1 ≤ (c.size : Int) then (if (0 : Int) ≤ 1 ∧ 1 ≤ (d.size : Int) then (if (sub c 0 1).size + (sub d 0 1).size ≤ 9223372036854775807 then some (!((oo e ((sub c 0 1) ++ (sub d 0 1))).getD false)) else none) else none) else none)))))))
theorem oK {fu a1 a2 a b c d} : Le (i7 fu a1 a2 a b c d) (du a1 a2 a b c d) := by
  unfold i7 du
  exact (lb jV fun _ => (lb jV fun _ => (lb (li lr (li (lb lr fun _ => lr) lr)) fun _ => (lb (li lr lr) fun _ => (lb (li lr lr) fun _ => (li lr (li (li (li lr lr) lr) lr)))))))
def fD (fu : Nat) {σ : Type} (φ : σ → ah → Option (σ × Bool)) (d : Int) (a4 : Int) (e : List ByteArray) (a10 : ByteArray) (f : List (ByteArray × Bool)) (j : Bool) (a : Int) (b : σ) : Option (Sum σ σ) := match fu with
  | 0 => none
  | fu + 1 => (if a < (a10.size : Int) then (((if j = true then some true else (if (0 : Int) ≤ ax (a - 1) ∧ ax (a - 1) < (a10.size : Int) then some (decide (¬ (bt a10 (ax (a - 1))) = 32)) else none)) >>= fun c => (if (0 : Int) ≤ ax (a - 1) ∧ ax (a - 1) < (a10.size : Int) then (if (bt a10 (ax (a - 1))) = 32 then ((if c = true then (if (0 : Int) ≤ a ∧ a < (a10.size : Int) then some (decide (¬ (bt a10 a) = 32)) else none) else some false) >>= fun k => ((if k = true then (if (0 : Int) ≤ ax (a - 1) ∧ ax (a - 1) < (a10.size : Int) then (φ b (⟨a, decide ((bt a10 (ax (a - 1))) = 126)⟩ : ah) >>= fun (l, m) => some (!m, l)) else none) else some (false, b)) >>= fun (n, g) => (if n = true then some (Sum.inl g) else some (Sum.inr (c, g))))) else (if (bt a10 (ax (a - 1))) = 45 then ((if 1 < a then (if (0 : Int) ≤ ax (a - 2) ∧ ax (a - 2) < (a10.size : Int) then (im (bt a10 (ax (a - 2))) >>= fun o => some o) else none) else some false) >>= fun p => ((if p = true then (if (0 : Int) ≤ a ∧ a < (a10.size : Int) then (im (bt a10 a) >>= fun q => some q) else none) else some false) >>= fun r => ((if r = true then (if (0 : Int) ≤ ax (a - 1) ∧ ax (a - 1) < (a10.size : Int) then (φ b (⟨a, decide ((bt a10 (ax (a - 1))) = 126)⟩ : ah) >>= fun (s, t) => some (!t, s)) else none) else some (false, b)) >>= fun (u, h) => (if u = true then some (Sum.inl h) else some (Sum.inr (c, h)))))) else (if (bt a10 (ax (a - 1))) = 126 then (i7 fu d a4 e a10 f a >>= fun v => ((if v = true then (if (0 : Int) ≤ ax (a - 1) ∧ ax (a - 1) < (a10.size : Int) then (φ b (⟨a, decide ((bt a10 (ax (a - 1))) = 126)⟩ : ah) >>= fun (w, x) => some (!x, w)) else none) else some (false, b)) >>= fun (y, i) => (if y = true then some (Sum.inl i) else some (Sum.inr (c, i))))) else some (Sum.inr (c, b))))) else none)) >>= fun A => match A with | (Sum.inl B) => some (Sum.inl B) | (Sum.inr (C, D)) => fD fu φ d a4 e a10 f C (ax (a + 1)) D) else some (Sum.inr b))
theorem lO {fu σ φ a a4 b a10 c d e f} {φ' : σ → ah → Option (σ × Bool)} (hφ : ∀ s x, Le (φ' s x) (φ s x)) : Le (fD fu φ' a a4 b a10 c d e f) (aT φ a a4 b a10 c d e f) := by
  induction fu generalizing a a4 b a10 c d e f with
  | zero => exact Le.none
  | succ fu ih =>
    rw [aT]
    exact (li (lb (lb (li lr (li lr lr)) fun _ => (li (li (lb (li (li lr lr) lr) fun _ => (lb (li (li (lb (hφ _ _) fun _ => lr) lr) lr) fun _ => (li lr lr))) (li (lb (li (li (lb lr fun _ => lr) lr) lr) fun _ => (lb (li (li (lb lr fun _ => lr) lr) lr) fun _ => (lb (li (li (lb (hφ _ _) fun _ => lr) lr) lr) fun _ => (li lr lr)))) (li (lb oK fun _ => (lb (li (li (lb (hφ _ _) fun _ => lr) lr) lr) fun _ => (li lr lr))) lr))) lr)) fun g => (match g with | (Sum.inl h) => lr | (Sum.inr (i, j)) => ih)) lr)
def gP (fu : Nat) {σ : Type} (φ : σ → ah → Option (σ × Bool)) (sy : σ) (a : Int) (a4 : Int) (b : List ByteArray) (a10 : ByteArray) (c : List (ByteArray × Bool)) : Option (σ) :=
  (fD fu φ a a4 b a10 c false 1 sy >>= fun d => match d with | (Sum.inl e) => some e | (Sum.inr f) => some f)
theorem m0 {fu σ φ sy a a4 b a10 c} {φ' : σ → ah → Option (σ × Bool)} (hφ : ∀ s x, Le (φ' s x) (φ s x)) : Le (gP fu φ' sy a a4 b a10 c) (cF φ sy a a4 b a10 c) := by
  unfold gP cF
  exact (lb (lO hφ) fun d => (match d with | (Sum.inl e) => lr | (Sum.inr f) => lr))
def oE (fu : Nat) (a1 : ak) (a6 : ByteArray) : Option ((List ah) × Int) :=
  (ma fu a1 a6 >>= fun (b, c, d, e, a, f) => (if (!f) = true then some (([] : List ah), 1) else (eQ b c d e a >>= fun (g, h, i, j) => (gP fu (j5 (fun (u : (List ah)) (x : ah) => cS u x)) (([] : List ah), none) g h i j a >>= fun (k, l) => match l with | none => some (k, 0) | some _ => none))))
theorem tp {fu a1 a6} : Le (oE fu a1 a6) (jW a1 a6) := by
  unfold oE jW
  exact (lb rz fun _ => (li lr (lb lr fun _ => (lb (m0 (rh fun _ _ => lr)) fun (b, a) => (match a with | none => lr | some _ => lr)))))
def nh (fu : Nat) (a1 : ai) (a10 : ByteArray) (a : Nat) : Option (Sum Nat Nat) := match fu with
  | 0 => none
  | fu + 1 => (if a < a10.size then (kb fu a1 (uG (((Utf8.decode a10 a).1 : Int))) >>= fun (d, b) => ((if (!b) = true then some (decide (¬ ((Utf8.decode a10 a).1 : Int) = 126)) else some false) >>= fun c => (if c = true then some (Sum.inl (a + (Utf8.decode a10 a).2)) else nh fu a1 a10 (a + (Utf8.decode a10 a).2)))) else some (Sum.inr a))
theorem td {fu a1 a10 a} : Le (nh fu a1 a10 a) (eS a1 a10 a) := by
  induction fu generalizing a1 a10 a with
  | zero => exact Le.none
  | succ fu ih =>
    rw [eS]
    exact (li (lb mp fun _ => (lb (li lr lr) fun _ => (li lr ih))) lr)
def mh (fu : Nat) (a1 : ai) (a10 : ByteArray) : Option (Bool × Int) :=
  (lk fu a1 >>= fun a => ((if (!a) = true then some true else (iz fu a10 >>= fun b => some (!b))) >>= fun c => (if c = true then some (false, 1) else (nh fu a1 a10 0 >>= fun d => match d with | (Sum.inl e) => some (false, 0) | (Sum.inr f) => some (true, 0)))))
theorem nW {fu a1 a10} : Le (mh fu a1 a10) (fx a1 a10) := by
  unfold mh fx
  exact (lb om fun _ => (lb (li lr (lb ju fun _ => lr)) fun _ => (li lr (lb td fun a => (match a with | (Sum.inl b) => lr | (Sum.inr c) => lr)))))
def gU (fu : Nat) {σ : Type} (φ : σ → aO → Option (σ × Bool)) (b : ByteArray) (d : Int) (a : Nat) (c : σ) : Option (Sum (Nat × σ) (Nat × σ)) := match fu with
  | 0 => none
  | fu + 1 => (if a < b.size then (if ((Utf8.decode b a).1 : Int) = 126 then gU fu φ b d (a + (Utf8.decode b a).2) c else (φ c (⟨d, uG (((Utf8.decode b a).1 : Int))⟩ : aO) >>= fun (e, f) => (if (!f) = true then some (Sum.inl (a + (Utf8.decode b a).2, e)) else gU fu φ b (uG (((Utf8.decode b a).1 : Int))) (a + (Utf8.decode b a).2) e))) else some (Sum.inr (a, c)))
theorem o3 {fu σ φ a b c d} {φ' : σ → aO → Option (σ × Bool)} (hφ : ∀ s x, Le (φ' s x) (φ s x)) : Le (gU fu φ' a b c d) (bp φ a b c d) := by
  induction fu generalizing a b c d with
  | zero => exact Le.none
  | succ fu ih =>
    rw [bp]
    exact (li (li ih (lb (hφ _ _) fun _ => (li lr ih))) lr)
def lq (fu : Nat) {σ : Type} (φ : σ → aO → Option (σ × Bool)) (sy : σ) (a : ByteArray) : Option (σ) :=
  (gU fu φ a 0 0 sy >>= fun b => match b with | (Sum.inl (e, c)) => some c | (Sum.inr (f, d)) => some d)
theorem qS {fu σ φ sy a} {φ' : σ → aO → Option (σ × Bool)} (hφ : ∀ s x, Le (φ' s x) (φ s x)) : Le (lq fu φ' sy a) (ff φ sy a) := by
  unfold lq ff
  exact (lb (o3 hφ) fun b => (match b with | (Sum.inl (c, d)) => lr | (Sum.inr (e, f)) => lr))
def cb (fu : Nat) (a1 : List bX) (a6 : aO) (a : Int) (b : Int) : Option (Int) := match fu with
  | 0 => none
  | fu + 1 => (if a < b then (if (0 : Int) ≤ ax (Int.fdiv (IntKind.wrap .u64 (ax (a + b))) (2 ^ 1)) ∧ ax (Int.fdiv (IntKind.wrap .u64 (ax (a + b))) (2 ^ 1)) < (a1.length : Int) then (ly fu (a1.getD (Int.toNat (ax (Int.fdiv (IntKind.wrap .u64 (ax (a + b))) (2 ^ 1)))) am) a6 >>= fun c => (if c < 0 then cb fu a1 a6 (ax ((ax (Int.fdiv (IntKind.wrap .u64 (ax (a + b))) (2 ^ 1))) + 1)) b else cb fu a1 a6 a (ax (Int.fdiv (IntKind.wrap .u64 (ax (a + b))) (2 ^ 1))))) else none) else some a)
theorem iY {fu a1 a6 a b} : Le (cb fu a1 a6 a b) (aD a1 a6 a b) := by
  induction fu generalizing a1 a6 a b with
  | zero => exact Le.none
  | succ fu ih =>
    rw [aD]
    exact (li (li (lb oz fun _ => (li ih ih)) lr) lr)
def dy (fu : Nat) (a1 : List bX) (a6 : aO) : Option (Int × Bool) :=
  (cb fu a1 a6 0 (a1.length : Int) >>= fun a => ((if a < (a1.length : Int) then (if (0 : Int) ≤ a ∧ a < (a1.length : Int) then (ly fu (a1.getD (Int.toNat a) am) a6 >>= fun b => some (decide (b = 0))) else none) else some false) >>= fun c => some (a, c)))
theorem jJ {fu a1 a6} : Le (dy fu a1 a6) (bh a1 a6) := by
  unfold dy bh
  exact (lb iY fun _ => (lb (li (li (lb oz fun _ => lr) lr) lr) fun _ => lr))
def iG (fu : Nat) (a1 : List bX) (a6 : aO) : Option (bX × Bool) :=
  (dy fu a1 a6 >>= fun (a, b) => (if (!b) = true then some ((⟨0, 0, 0⟩ : bX), false) else (if (0 : Int) ≤ a ∧ a < (a1.length : Int) then some ((a1.getD (Int.toNat a) am), true) else none)))
theorem nM {fu a1 a6} : Le (iG fu a1 a6) (bU a1 a6) := by
  unfold iG bU
  exact (lb jJ fun _ => (li lr (li lr lr)))
def nC (fu : Nat) (a1 : ai) (b : Int) (a : aO) : Option ((Int) × Option Nat) :=
  (kb fu a1 a.right >>= fun (c, e) => (iG fu a1.Kerns a >>= fun (d, f) => some (ax (b + (ax (c.Advance + d.By))), none)))
theorem s9 {fu a1 a b} : Le (nC fu a1 a b) (cV a1 a b) := by
  unfold nC cV
  exact (lb mp fun _ => (lb nM fun _ => lr))
def qT (fu : Nat) (a1 : ai) (a10 : ByteArray) : Option (Int × Int) :=
  (mh fu a1 a10 >>= fun (b, a) => (if ¬ a = 0 then some (0, a) else (if (!b) = true then some (0, 20) else (kU a10 >>= fun c => (lq fu (j5 (fun (u : Int) (x : aO) => nC fu a1 u x)) (0, none) c >>= fun (d, e) => match e with | none => some (d, 0) | some _ => none)))))
theorem wQ {fu a1 a10} : Le (qT fu a1 a10) (jn a1 a10) := by
  unfold qT jn
  exact (lb nW fun _ => (li lr (li lr (lb lr fun _ => (lb (qS (rh fun _ _ => s9)) fun (b, a) => (match a with | none => lr | some _ => lr))))))
def mX (fu : Nat) (a1 : ai) (a10 : ByteArray) (a : Int) : Option (Int × Int) :=
  (qT fu a1 a10 >>= fun (c, b) => ((if b = 1 then some true else some (decide (a < 50))) >>= fun d => ((if d = true then some true else some (decide (300 < a))) >>= fun e => (if e = true then some (0, 1) else (if ¬ b = 0 then some (0, b) else some (ax (Int.tdiv (ax ((ax (c * a)) + 99)) 100), 0))))))
theorem qM {fu a1 a10 a} : Le (mX fu a1 a10 a) (df a1 a10 a) := by
  unfold mX df
  exact (lb wQ fun _ => (lb (li lr lr) fun _ => (lb (li lr lr) fun _ => (li lr (li lr lr)))))
def dV (fu : Nat) (a1 : List ah) (a : Int) : Option (Sum Int Unit) := match fu with
  | 0 => none
  | fu + 1 => (if a < (a1.length : Int) then (if (0 : Int) ≤ a ∧ a < (a1.length : Int) then (iX (a1.getD (Int.toNat a) aG) >>= fun b => (if b = true then some (Sum.inl a) else dV fu a1 (ax (a + 1)))) else none) else some (Sum.inr ()))
theorem ku {fu a1 a} : Le (dV fu a1 a) (aV a1 a) := by
  induction fu generalizing a1 a with
  | zero => exact Le.none
  | succ fu ih =>
    rw [aV]
    exact (li (li (lb lr fun _ => (li lr ih)) lr) lr)
def fo (fu : Nat) (a1 : List ah) : Option (Int) :=
  (dV fu a1 0 >>= fun a => match a with | (Sum.inl b) => some b | (Sum.inr _) => some (-1))
theorem lC {fu a1} : Le (fo fu a1) (cq a1) := by
  unfold fo cq
  exact (lb ku fun a => (match a with | (Sum.inl b) => lr | (Sum.inr _) => lr))
def ej (fu : Nat) (a1 : List ah) : Option (Bool) :=
  (fo fu a1 >>= fun a => some (decide (0 ≤ a)))
theorem kz {fu a1} : Le (ej fu a1) (bC a1) := by
  unfold ej bC
  exact (lb lC fun _ => lr)
def ke (fu : Nat) (a1 : ai) (a10 : ak) (a : ByteArray) (c : Int) : Option ((Sum (ByteArray × (List ah)) (Sum (ByteArray × (List ah)) (ByteArray × (List ah) × ai × Int)))) :=
  (oE fu a10 a >>= fun (b, d) => ((if ¬ d = 0 then some true else (lk fu a1 >>= fun e => some (!e))) >>= fun f => ((if f = true then some true else (aY c 50 300 >>= fun g => some (!g))) >>= fun h => (if h = true then some (Sum.inl ((⟨#[]⟩ : ByteArray), ([] : List ah))) else (ej fu b >>= fun i => (if i = true then (mh fu a1 a >>= fun (j, m) => (if (!j) = true then some (Sum.inr (Sum.inl ((⟨#[]⟩ : ByteArray), ([] : List ah)))) else (mh fu a1 (⟨#[45]⟩ : ByteArray) >>= fun (k, n) => (if (!k) = true then some (Sum.inr (Sum.inl ((⟨#[]⟩ : ByteArray), ([] : List ah)))) else (if b.length + 1 ≤ 8796093022208 then some (Sum.inr (Sum.inr (a, b ++ [(⟨(a.size : Int), false⟩ : ah)], a1, c))) else none))))) else (mh fu a1 a >>= fun (l, o) => (if (!l) = true then some (Sum.inr (Sum.inl ((⟨#[]⟩ : ByteArray), ([] : List ah)))) else (if b.length + 1 ≤ 8796093022208 then some (Sum.inr (Sum.inr (a, b ++ [(⟨(a.size : Int), false⟩ : ah)], a1, c))) else none)))))))))
theorem oe {fu a1 a10 a b} : Le (ke fu a1 a10 a b) (cO a1 a10 a b) := by
  unfold ke cO
  exact (lb tp fun _ => (lb (li lr (lb om fun _ => lr)) fun _ => (lb (li lr (lb lr fun _ => lr)) fun _ => (li lr (lb kz fun _ => (li (lb nW fun _ => (li lr (lb nW fun _ => (li lr (li lr lr))))) (lb nW fun _ => (li lr (li lr lr)))))))))
def iV (fu : Nat) (a1 : ByteArray) (c : Int) (d : Bool) (a : Nat) : Option (Int × Nat) := match fu with
  | 0 => none
  | fu + 1 => (if a < a1.size then (dP (uG (((Utf8.decode a1 a).1 : Int))) >>= fun b => (((if b = 6 then some (Sum.inl ()) else (if b = 4 then some (Sum.inr (Sum.inr (Sum.inr ()))) else (if b = 1 then some (Sum.inr (Sum.inr (Sum.inl ()))) else (if b = 2 then some (Sum.inr (Sum.inr (Sum.inl ()))) else (if b = 3 then some (Sum.inr (Sum.inr (Sum.inl ()))) else some (Sum.inr (Sum.inl ()))))))) >>= fun e => match e with | (Sum.inl _) => some (Sum.inr d) | (Sum.inr (Sum.inl _)) => some (Sum.inl ()) | (Sum.inr (Sum.inr (Sum.inl _))) => some (Sum.inl ()) | (Sum.inr (Sum.inr (Sum.inr _))) => some (Sum.inr false)) >>= fun f => match f with | (Sum.inl _) => (if (!d) = true then iV fu a1 (ax (c + 1)) true (a + (Utf8.decode a1 a).2) else iV fu a1 c true (a + (Utf8.decode a1 a).2)) | (Sum.inr g) => iV fu a1 c g (a + (Utf8.decode a1 a).2))) else some (c, a))
theorem rL {fu a1 a b c} : Le (iV fu a1 a b c) (cY a1 a b c) := by
  induction fu generalizing a1 a b c with
  | zero => exact Le.none
  | succ fu ih =>
    rw [cY]
    exact (li (lb lr fun _ => (lb (lb (li lr (li lr (li lr (li lr (li lr lr))))) fun d => (match d with | (Sum.inl _) => lr | (Sum.inr (Sum.inl _)) => lr | (Sum.inr (Sum.inr (Sum.inl _))) => lr | (Sum.inr (Sum.inr (Sum.inr _))) => lr)) fun e => (match e with | (Sum.inl _) => (li ih ih) | (Sum.inr f) => ih))) lr)
def m5 (fu : Nat) (a1 : ByteArray) : Option (Int × Int) :=
  (iz fu a1 >>= fun a => (if (!a) = true then some (0, 1) else (iV fu a1 0 false 0 >>= fun (b, c) => some (b, 0))))
theorem qL {fu a1} : Le (m5 fu a1) (gI a1) := by
  unfold m5 gI
  exact (lb ju fun _ => (li lr (lb rL fun _ => lr)))
def fS (fu : Nat) (a1 : List Int) (a : Int) : Option (Sum Int Unit) := match fu with
  | 0 => none
  | fu + 1 => (if a < (a1.length : Int) then (if (0 : Int) ≤ a ∧ a < (a1.length : Int) then (jU (a1.getD (Int.toNat a) (0 : Int)) >>= fun b => (if b = true then some (Sum.inl a) else fS fu a1 (ax (a + 1)))) else none) else some (Sum.inr ()))
theorem l8 {fu a1 a} : Le (fS fu a1 a) (bz a1 a) := by
  induction fu generalizing a1 a with
  | zero => exact Le.none
  | succ fu ih =>
    rw [bz]
    exact (li (li (lb lr fun _ => (li lr ih)) lr) lr)
def gZ (fu : Nat) (a1 : List Int) : Option (Int) :=
  (fS fu a1 0 >>= fun a => match a with | (Sum.inl b) => some b | (Sum.inr _) => some (-1))
theorem nf {fu a1} : Le (gZ fu a1) (dq a1) := by
  unfold gZ dq
  exact (lb l8 fun a => (match a with | (Sum.inl b) => lr | (Sum.inr _) => lr))
def ge (fu : Nat) (a1 : List Int) : Option (Bool) :=
  (gZ fu a1 >>= fun a => some (decide (0 ≤ a)))
theorem my {fu a1} : Le (ge fu a1) (cm a1) := by
  unfold ge cm
  exact (lb nf fun _ => lr)
def dY (fu : Nat) (a1 : List ah) (b : Int) (a : Int) : Option (Sum Int Unit) := match fu with
  | 0 => none
  | fu + 1 => (if a < (a1.length : Int) then (if (0 : Int) ≤ a ∧ a < (a1.length : Int) then (eH (a1.getD (Int.toNat a) aG) b >>= fun c => (if c = true then some (Sum.inl a) else dY fu a1 b (ax (a + 1)))) else none) else some (Sum.inr ()))
theorem kj {fu a1 a b} : Le (dY fu a1 a b) (bd a1 a b) := by
  induction fu generalizing a1 a b with
  | zero => exact Le.none
  | succ fu ih =>
    rw [bd]
    exact (li (li (lb lr fun _ => (li lr ih)) lr) lr)
def fm (fu : Nat) (a1 : List ah) (a : Int) : Option (Int) :=
  (dY fu a1 a 0 >>= fun b => match b with | (Sum.inl c) => some c | (Sum.inr _) => some (-1))
theorem lJ {fu a1 a} : Le (fm fu a1 a) (cr a1 a) := by
  unfold fm cr
  exact (lb kj fun b => (match b with | (Sum.inl c) => lr | (Sum.inr _) => lr))
def dL (fu : Nat) {σ : Type} (φ : σ → (Int × ah) → Option (σ × Bool)) (b : List ah) (a : Int) (c : σ) : Option (Sum σ σ) := match fu with
  | 0 => none
  | fu + 1 => (if 0 ≤ a then (if (0 : Int) ≤ a ∧ a < (b.length : Int) then (φ c (a, (b.getD (Int.toNat a) aG)) >>= fun (d, e) => (if (!e) = true then some (Sum.inl d) else dL fu φ b (ax (a - 1)) d)) else none) else some (Sum.inr c))
theorem ka {fu σ φ a b c} {φ' : σ → (Int × ah) → Option (σ × Bool)} (hφ : ∀ s x, Le (φ' s x) (φ s x)) : Le (dL fu φ' a b c) (aR φ a b c) := by
  induction fu generalizing a b c with
  | zero => exact Le.none
  | succ fu ih =>
    rw [aR]
    exact (li (li (lb (hφ _ _) fun _ => (li lr ih)) lr) lr)
def eW (fu : Nat) {σ : Type} (φ : σ → (Int × ah) → Option (σ × Bool)) (sy : σ) (a : List ah) : Option (σ) :=
  (dL fu φ a (ax ((a.length : Int) - 1)) sy >>= fun b => match b with | (Sum.inl c) => some c | (Sum.inr d) => some d)
theorem lj {fu σ φ sy a} {φ' : σ → (Int × ah) → Option (σ × Bool)} (hφ : ∀ s x, Le (φ' s x) (φ s x)) : Le (eW fu φ' sy a) (cd φ sy a) := by
  unfold eW cd
  exact (lb (ka hφ) fun b => (match b with | (Sum.inl c) => lr | (Sum.inr d) => lr))
def jE (fu : Nat) (a1 : ByteArray) (a4 : ai) (a : Int) : Option (Int) :=
  (mX fu a4 a1 a >>= fun (b, c) => some b)
theorem o0 {fu a1 a4 a} : Le (jE fu a1 a4 a) (fb a1 a4 a) := by
  unfold jE fb
  exact (lb qM fun _ => lr)
def f5 (fu : Nat) (a1 : ByteArray) (a2 : List ah) (b : ai) (c : Int) (a : Int) (a22 : ah) : Option (az) :=
  (ix a1 a a22.At a22.Hyphen >>= fun d => (jE fu d b c >>= fun e => some (⟨a, a22.At, e, a22.Hyphen⟩ : az)))
theorem kC {fu a1 a2 a b c a22} : Le (f5 fu a1 a2 a b c a22) (cJ a1 a2 a b c a22) := by
  unfold f5 cJ
  exact (lb lr fun _ => (lb o0 fun _ => lr))
def gm (fu : Nat) (a1 : ByteArray) (a2 : List ah) (b : ai) (c : Int) (d : Int) (a22 : Int) (e : Int) (f : Int) (g : Int) (h : Bool) (j : Int) (i : ah) : Option ((Int × Int × Int × Bool) × Option Nat) :=
  (f5 fu a1 a2 b c d i >>= fun a => (if a.Width ≤ a22 then some ((a.From, a.Until, a.Width, a.Hyphen), (some 0)) else some ((e, f, g, h), none)))
theorem mM {fu a1 a2 a b c a22 d e f g h i} : Le (gm fu a1 a2 a b c a22 d e f g h i) (bM a1 a2 a b c a22 d e f g h i) := by
  unfold gm bM
  exact (lb kC fun _ => (li lr lr))
def f7 (fu : Nat) (a1 : ByteArray) (a2 : List ah) (c : ai) (d : Int) (b : Int) (a22 : Int) : Option (az) :=
  (fm fu a2 b >>= fun a => (if (0 : Int) ≤ a ∧ (a : Int) ≤ (a2.length : Int) then (dJ (fk a2 a (a2.length : Int)) >>= fun e => (eW fu (j5 (fun (u : Int × Int × Int × Bool) (x : Int × ah) => gm fu a1 a2 c d b a22 u.1 u.2.1 u.2.2.1 u.2.2.2 x.1 x.2)) ((0, 0, 0, false), none) e >>= fun ((f, g, h, i), j) => match j with | none => (if (0 : Int) ≤ 0 ∧ 0 < ((fk a2 a (a2.length : Int)).length : Int) then (f5 fu a1 a2 c d b ((fk a2 a (a2.length : Int)).getD (Int.toNat 0) aG) >>= fun k => some k) else none) | some 0 => some (⟨f, g, h, i⟩ : az) | some _ => none)) else none))
theorem kE {fu a1 a2 a b c a22} : Le (f7 fu a1 a2 a b c a22) (b5 a1 a2 a b c a22) := by
  unfold f7 b5
  exact (lb lJ fun _ => (li (lb lr fun _ => (lb (lj (rh fun _ _ => mM)) fun ((e, f, g, h), d) => (match d with | none => (li (lb kC fun _ => lr) lr) | some 0 => lr | some (_ + 1) => lr))) lr))
def fG (fu : Nat) {σ : Type} (φ : σ → az → Option (σ × Bool)) (b : ByteArray) (a4 : List ah) (e : ai) (a22 : Int) (a : List Int) (c : Int) (d : Int) (f : σ) : Option (σ) := match fu with
  | 0 => none
  | fu + 1 => (if (0 : Int) ≤ c ∧ (c : Int) ≤ (b.size : Int) then (m5 fu (sub b c (b.size : Int)) >>= fun (i, k) => (if i = 0 then some f else (if (0 : Int) ≤ min d (ax ((a.length : Int) - 1)) ∧ min d (ax ((a.length : Int) - 1)) < (a.length : Int) then (f7 fu b a4 e a22 c (a.getD (Int.toNat (min d (ax ((a.length : Int) - 1)))) (0 : Int)) >>= fun g => (φ f g >>= fun (h, j) => (if (!j) = true then some h else fG fu φ b a4 e a22 a g.Until (ax (d + 1)) h))) else none))) else none)
theorem lN {fu σ φ a a4 b a22 c d e f} {φ' : σ → az → Option (σ × Bool)} (hφ : ∀ s x, Le (φ' s x) (φ s x)) : Le (fG fu φ' a a4 b a22 c d e f) (bo φ a a4 b a22 c d e f) := by
  induction fu generalizing a a4 b a22 c d e f with
  | zero => exact Le.none
  | succ fu ih =>
    rw [bo]
    exact (li (lb qL fun _ => (li lr (li (lb kE fun _ => (lb (hφ _ _) fun _ => (li lr ih))) lr))) lr)
def gD (fu : Nat) {σ : Type} (φ : σ → az → Option (σ × Bool)) (sy : σ) (a : ByteArray) (a4 : List ah) (b : ai) (a22 : Int) (c : List Int) : Option (σ) :=
  (fG fu φ a a4 b a22 c 0 0 sy >>= fun d => some d)
theorem mY {fu σ φ sy a a4 b a22 c} {φ' : σ → az → Option (σ × Bool)} (hφ : ∀ s x, Le (φ' s x) (φ s x)) : Le (gD fu φ' sy a a4 b a22 c) (db φ sy a a4 b a22 c) := by
  unfold gD db
  exact (lb (lN hφ) fun _ => lr)
def fH (fu : Nat) (a : ByteArray) (a4 : List ah) (b : ai) (a22 : Int) (c : List Int) : Option ((List az)) :=
  (gD fu (j5 (fun (u : (List az)) (x : az) => aP u x)) (([] : List az), none) a a4 b a22 c >>= fun (d, e) => match e with | none => some d | some _ => none)
theorem lQ {fu a a4 b a22 c} : Le (fH fu a a4 b a22 c) (cx a a4 b a22 c) := by
  unfold fH cx
  exact (lb (mY (rh fun _ _ => lr)) fun (e, d) => (match d with | none => lr | some _ => lr))
def gg (fu : Nat) (a : ByteArray) (a4 : List ah) (b : ai) (a22 : Int) (c : List Int) : Option ((List az)) :=
  (fH fu a a4 b a22 c >>= fun d => some d)
theorem mx {fu a a4 b a22 c} : Le (gg fu a a4 b a22 c) (cP a a4 b a22 c) := by
  unfold gg cP
  exact (lb lQ fun _ => lr)
def nA (fu : Nat) (a1 : ai) (a10 : ak) (c : ByteArray) (d : Int) (a17 : List Int) : Option ((List az) × Int) :=
  ((if (a17.length : Int) = 0 then some true else (ge fu a17 >>= fun e => some e)) >>= fun f => (if f = true then some (([] : List az), 1) else (ke fu a1 a10 c d >>= fun g => match g with | (Sum.inl (n, o)) => some (([] : List az), 1) | (Sum.inr (Sum.inl (p, q))) => some (([] : List az), 20) | (Sum.inr (Sum.inr (h, i, a, b))) => (eV h i a b a17 >>= fun (j, k, l) => (gg fu j k a b l >>= fun m => some (m, 0))))))
theorem tc {fu a1 a10 a b a17} : Le (nA fu a1 a10 a b a17) (fL a1 a10 a b a17) := by
  unfold nA fL
  exact (lb (li lr (lb my fun _ => lr)) fun _ => (li lr (lb oe fun c => (match c with | (Sum.inl (d, e)) => lr | (Sum.inr (Sum.inl (f, g))) => lr | (Sum.inr (Sum.inr (h, i, j, k))) => (lb lr fun _ => (lb mx fun _ => lr))))))
def dZ (fu : Nat) (a1 : List ab) (a : Int) : Option (Sum Int Unit) := match fu with
  | 0 => none
  | fu + 1 => (if a < (a1.length : Int) then (if (0 : Int) ≤ a ∧ a < (a1.length : Int) then (j8 (a1.getD (Int.toNat a) ag) >>= fun b => (if b = true then some (Sum.inl a) else dZ fu a1 (ax (a + 1)))) else none) else some (Sum.inr ()))
theorem kr {fu a1 a} : Le (dZ fu a1 a) (aW a1 a) := by
  induction fu generalizing a1 a with
  | zero => exact Le.none
  | succ fu ih =>
    rw [aW]
    exact (li (li (lb lr fun _ => (li lr ih)) lr) lr)
def fj (fu : Nat) (a1 : List ab) : Option (Int) :=
  (dZ fu a1 0 >>= fun a => match a with | (Sum.inl b) => some b | (Sum.inr _) => some (-1))
theorem ll {fu a1} : Le (fj fu a1) (ct a1) := by
  unfold fj ct
  exact (lb kr fun a => (match a with | (Sum.inl b) => lr | (Sum.inr _) => lr))
def eg (fu : Nat) (a1 : List ab) : Option (Bool) :=
  (fj fu a1 >>= fun a => some (decide (0 ≤ a)))
theorem ky {fu a1} : Le (eg fu a1) (bZ a1) := by
  unfold eg bZ
  exact (lb ll fun _ => lr)
def lw (fu : Nat) (a1 : List ab) (a6 : Int) : Option (Bool) :=
  (cT a6 1000000 >>= fun a => ((if a = true then some (decide ((a1.length : Int) ≤ 200)) else some false) >>= fun b => ((if b = true then (eg fu a1 >>= fun c => some (!c)) else some false) >>= fun d => some d)))
theorem po {fu a1 a6} : Le (lw fu a1 a6) (iC a1 a6) := by
  unfold lw iC
  exact (lb lr fun _ => (lb (li lr lr) fun _ => (lb (li (lb ky fun _ => lr) lr) fun _ => lr)))
def mq (fu : Nat) (a1 : ai) (a10 : ak) (a : ByteArray) (b : Int) (a17 : Int) (c : Int) : Option (az × Int) :=
  (aY b 0 (ax ((a.size : Int) - 1)) >>= fun d => ((if (!d) = true then some true else (aY c 0 1000000000 >>= fun e => some (!e))) >>= fun f => (if f = true then some ((⟨0, 0, 0, false⟩ : az), 1) else (ke fu a1 a10 a a17 >>= fun g => match g with | (Sum.inl (m, n)) => some ((⟨0, 0, 0, false⟩ : az), 1) | (Sum.inr (Sum.inl (o, p))) => some ((⟨0, 0, 0, false⟩ : az), 20) | (Sum.inr (Sum.inr (h, i, j, k))) => (f7 fu h i j k b c >>= fun l => some (l, 0))))))
theorem pW {fu a1 a10 a b a17 c} : Le (mq fu a1 a10 a b a17 c) (eB a1 a10 a b a17 c) := by
  unfold mq eB
  exact (lb lr fun _ => (lb (li lr (lb lr fun _ => lr)) fun _ => (li lr (lb oe fun d => (match d with | (Sum.inl (e, f)) => lr | (Sum.inr (Sum.inl (g, h))) => lr | (Sum.inr (Sum.inr (i, j, k, l))) => (lb kE fun _ => lr))))))
def kv (fu : Nat) (a1 : aX) (a : Int) : Option (Int) :=
  (iz fu a1.s >>= fun c => ((if (!c) = true then some true else (lw fu a1.l a1.width >>= fun d => some (!d))) >>= fun e => ((if e = true then some true else some (decide (a1.line < 0))) >>= fun g => ((if g = true then some true else some (decide (1000000 < a1.line))) >>= fun h => ((if h = true then some true else some (decide (a < 0))) >>= fun i => ((if i = true then some true else some (decide (1000000000 < a))) >>= fun j => (if j = true then some 1 else ((if a1.align < 0 then some true else some (decide (2 < a1.align))) >>= fun k => ((if k = true then some true else some (decide (a1.dir < 0))) >>= fun m => ((if m = true then some true else some (decide (1 < a1.dir))) >>= fun n => (if n = true then some 1 else (if a1.s = (⟨#[]⟩ : ByteArray) then (nA fu a1.f a1.b (⟨#[]⟩ : ByteArray) a1.scale ([a1.width] : List Int) >>= fun (q, o) => some o) else (mq fu a1.f a1.b a1.s 0 a1.scale a1.width >>= fun (r, p) => some p)))))))))))))
theorem qg {fu a1 a} : Le (kv fu a1 a) (dQ a1 a) := by
  unfold kv dQ
  exact (lb ju fun _ => (lb (li lr (lb po fun _ => lr)) fun _ => (lb (li lr lr) fun _ => (lb (li lr lr) fun _ => (lb (li lr lr) fun _ => (lb (li lr lr) fun _ => (li lr (lb (li lr lr) fun _ => (lb (li lr lr) fun _ => (lb (li lr lr) fun _ => (li lr (li (lb tc fun _ => lr) (lb pW fun _ => lr)))))))))))))
def jZ (fu : Nat) (a1 : List Int) (b : Int) (a : Int) : Option (Int) := match fu with
  | 0 => none
  | fu + 1 => (if a < (a1.length : Int) then (if (0 : Int) ≤ a ∧ a < (a1.length : Int) then jZ fu a1 (min b (a1.getD (Int.toNat a) (0 : Int))) (ax (a + 1)) else none) else some b)
theorem pv {fu a1 a b} : Le (jZ fu a1 a b) (cU a1 a b) := by
  induction fu generalizing a1 a b with
  | zero => exact Le.none
  | succ fu ih =>
    rw [cU]
    exact (li (li ih lr) lr)
def me (fu : Nat) (a1 : List Int) : Option (Int) :=
  (if (a1.length : Int) < 1 then none else (if (0 : Int) ≤ 0 ∧ 0 < (a1.length : Int) then (jZ fu a1 (a1.getD (Int.toNat 0) (0 : Int)) 1 >>= fun a => some a) else none))
theorem rR {fu a1} : Le (me fu a1) (gF a1) := by
  unfold me gF
  exact (li lr (li (lb pv fun _ => lr) lr))
def fp (fu : Nat) (b : aX) (d : Int) (e : aX) (c : List Int) (a : Int) : Option ((List Int)) := match fu with
  | 0 => none
  | fu + 1 => (if a < (b.l.length : Int) then ((if (0 : Int) ≤ a ∧ a < (b.l.length : Int) then (eJ (b.l.getD (Int.toNat a) ag) d e >>= fun f => (if f = true then (if c.length + 1 ≤ 17592186044416 then some (c ++ [ax (((b.l.getD (Int.toNat a) ag).Y) + ((b.l.getD (Int.toNat a) ag).H))]) else none) else some c)) else none) >>= fun g => fp fu b d e g (ax (a + 1))) else some c)
theorem lK {fu a b c d e} : Le (fp fu a b c d e) (bi a b c d e) := by
  induction fu generalizing a b c d e with
  | zero => exact Le.none
  | succ fu ih =>
    rw [bi]
    exact (li (lb (li (lb lr fun _ => (li (li lr lr) lr)) lr) fun _ => ih) lr)
def fF (fu : Nat) {σ : Type} (φ : σ → (Int × Bool) → Option (σ × Bool)) (a : aX) (b : Int) (e : σ) : Option (Int × σ) := match fu with
  | 0 => none
  | fu + 1 => (gL a b >>= fun (f, g) => (fp fu a f g ([] : List Int) 0 >>= fun c => (φ e (b, decide (0 < (c.length : Int))) >>= fun (d, h) => ((if (!h) = true then some true else some (decide ((c.length : Int) = 0))) >>= fun i => (if i = true then some (b, d) else (me fu c >>= fun j => fF fu φ a j d))))))
theorem lS {fu σ φ a b c} {φ' : σ → (Int × Bool) → Option (σ × Bool)} (hφ : ∀ s x, Le (φ' s x) (φ s x)) : Le (fF fu φ' a b c) (b8 φ a b c) := by
  induction fu generalizing a b c with
  | zero => exact Le.none
  | succ fu ih =>
    rw [b8]
    exact (lb lr fun _ => (lb lK fun _ => (lb (hφ _ _) fun _ => (lb (li lr lr) fun _ => (li lr (lb rR fun _ => ih))))))
def gE (fu : Nat) {σ : Type} (φ : σ → (Int × Bool) → Option (σ × Bool)) (sy : σ) (a : aX) (a22 : Int) : Option (Int × σ) :=
  (fF fu φ a a22 sy >>= fun (b, c) => some (b, c))
theorem m7 {fu σ φ sy a a22} {φ' : σ → (Int × Bool) → Option (σ × Bool)} (hφ : ∀ s x, Le (φ' s x) (φ s x)) : Le (gE fu φ' sy a a22) (dc φ sy a a22) := by
  unfold gE dc
  exact (lb (lS hφ) fun _ => lr)
def lE (fu : Nat) (a1 : List ab) (d : Int) (e : Int) (f : Bool) (a : Int) (b : Int) (c : Int) : Option (Bool × Int × Int) := match fu with
  | 0 => none
  | fu + 1 => (if a < (a1.length : Int) then ((if (0 : Int) ≤ a ∧ a < (a1.length : Int) then (ez (⟨(a1.getD (Int.toNat a) ag)⟩ : gt) d e >>= fun g => (if (!g) = true then some (f, b, c) else (if ((a1.getD (Int.toNat a) ag).Side) = 1 then some (true, max b (ax (((a1.getD (Int.toNat a) ag).X) + ((a1.getD (Int.toNat a) ag).W))), c) else some (true, b, min c ((a1.getD (Int.toNat a) ag).X))))) else none) >>= fun (h, i, j) => lE fu a1 d e h (ax (a + 1)) i j) else some (f, b, c))
theorem rg {fu a1 a b c d e f} : Le (lE fu a1 a b c d e f) (ee a1 a b c d e f) := by
  induction fu generalizing a1 a b c d e f with
  | zero => exact Le.none
  | succ fu ih =>
    rw [ee]
    exact (li (lb (li (lb lr fun _ => (li lr (li lr lr))) lr) fun _ => ih) lr)
def ol (fu : Nat) (a1 : List ab) (a6 : Int) (a : Int) (b : Int) : Option (f8 × Bool) :=
  (lE fu a1 a b false 0 0 a6 >>= fun (c, qs, d) => some ((⟨qs, max qs d⟩ : f8), c))
theorem tY {fu a1 a6 a b} : Le (ol fu a1 a6 a b) (la a1 a6 a b) := by
  unfold ol la
  exact (lb rg fun _ => lr)
def og (fu : Nat) (a1 : List ab) (a6 : Int) (a : Int) (b : Int) : Option (f8 × Int) :=
  (lw fu a1 a6 >>= fun c => ((if (!c) = true then some true else (cT a 1000000000 >>= fun d => some (!d))) >>= fun e => ((if e = true then some true else (cT b 1000000 >>= fun f => some (!f))) >>= fun g => (if g = true then some ((⟨0, 0⟩ : f8), 1) else (ol fu a1 a6 a b >>= fun (h, i) => some (h, 0))))))
theorem ue {fu a1 a6 a b} : Le (og fu a1 a6 a b) (jY a1 a6 a b) := by
  unfold og jY
  exact (lb po fun _ => (lb (li lr (lb lr fun _ => lr)) fun _ => (lb (li lr (lb lr fun _ => lr)) fun _ => (li lr (lb tY fun _ => lr)))))
def ov (fu : Nat) (a1 : ByteArray) (a2 : Int) : Option (Bool) :=
  (iz fu a1 >>= fun a => ((if a = true then ((if a2 = 0 then some true else some (decide (a2 = 1))) >>= fun b => some b) else some false) >>= fun c => some c))
theorem ub {fu a1 a2} : Le (ov fu a1 a2) (jO a1 a2) := by
  unfold ov jO
  exact (lb ju fun _ => (lb (li (lb (li lr lr) fun _ => lr) lr) fun _ => lr))
def hY (fu : Nat) (b : List Int) (a : Int) : Option (Int) := match fu with
  | 0 => none
  | fu + 1 => ((if a < (b.length : Int) then (if (0 : Int) ≤ a ∧ a < (b.length : Int) then (f6 (b.getD (Int.toNat a) (0 : Int)) >>= fun c => some c) else none) else some false) >>= fun d => (if d = true then hY fu b (ax (a + 1)) else some a))
theorem nj {fu a b} : Le (hY fu a b) (bu a b) := by
  induction fu generalizing a b with
  | zero => exact Le.none
  | succ fu ih =>
    rw [bu]
    exact (lb (li (li (lb lr fun _ => lr) lr) lr) fun _ => (li ih lr))
def hU (fu : Nat) {σ : Type} (φ : σ → (Int × Int) → Option (σ × Bool)) (b : List Int) (a : Int) (c : σ) : Option (Sum σ σ) := match fu with
  | 0 => none
  | fu + 1 => (if a < (b.length : Int) then (hY fu b a >>= fun d => ((if a < d then (φ c (a, d) >>= fun (f, g) => some (!g, f)) else some (false, c)) >>= fun (h, e) => (if h = true then some (Sum.inl e) else hU fu φ b (ax ((max a d) + 1)) e))) else some (Sum.inr c))
theorem nw {fu σ φ a b c} {φ' : σ → (Int × Int) → Option (σ × Bool)} (hφ : ∀ s x, Le (φ' s x) (φ s x)) : Le (hU fu φ' a b c) (bg φ a b c) := by
  induction fu generalizing a b c with
  | zero => exact Le.none
  | succ fu ih =>
    rw [bg]
    exact (li (lb nj fun _ => (lb (li (lb (hφ _ _) fun _ => lr) lr) fun _ => (li lr ih))) lr)
def jy (fu : Nat) {σ : Type} (φ : σ → (Int × Int) → Option (σ × Bool)) (sy : σ) (a : List Int) : Option (σ) :=
  (hU fu φ a 0 sy >>= fun b => match b with | (Sum.inl c) => some c | (Sum.inr d) => some d)
theorem pj {fu σ φ sy a} {φ' : σ → (Int × Int) → Option (σ × Bool)} (hφ : ∀ s x, Le (φ' s x) (φ s x)) : Le (jy fu φ' sy a) (dO φ sy a) := by
  unfold jy dO
  exact (lb (nw hφ) fun b => (match b with | (Sum.inl c) => lr | (Sum.inr d) => lr))
def kQ (fu : Nat) (a1 : List Int) (b : Int) (c : List Int) (a : Int) : Option ((List Int)) := match fu with
  | 0 => none
  | fu + 1 => (if a < (a1.length : Int) then (if (0 : Int) ≤ a ∧ a < (a1.length : Int) then kQ fu a1 b (List.set c (Int.toNat a) b) (ax (a + 1)) else none) else some c)
theorem qA {fu a1 a b c} : Le (kQ fu a1 a b c) (ce a1 a b c) := by
  induction fu generalizing a1 a b c with
  | zero => exact Le.none
  | succ fu ih =>
    rw [ce]
    exact (li (li ih lr) lr)
def lL (fu : Nat) (a1 : List Int) (a : Int) : Option ((List Int)) :=
  (kQ fu a1 a a1 0 >>= fun b => some b)
theorem pr {fu a1 a} : Le (lL fu a1 a) (fN a1 a) := by
  unfold lL fN
  exact (lb qA fun _ => lr)
def jx (fu : Nat) (a1 : ByteArray) (b : List Int) (c : Int) (a : Int) : Option ((List Int)) := match fu with
  | 0 => none
  | fu + 1 => (if a < ((List.replicate (Int.toNat (a1.size : Int)) (0 : Int)).length : Int) then ((if (0 : Int) ≤ a ∧ a < (a1.size : Int) then (dP (bt a1 a) >>= fun d => (if d = 1 then (if (0 : Int) ≤ a ∧ a < ((List.replicate (Int.toNat (a1.size : Int)) (0 : Int)).length : Int) then some (List.set b (Int.toNat a) 0, 0) else none) else (if d = 2 then (if (0 : Int) ≤ a ∧ a < ((List.replicate (Int.toNat (a1.size : Int)) (0 : Int)).length : Int) then some (List.set b (Int.toNat a) 1, 1) else none) else (if (0 : Int) ≤ a ∧ a < ((List.replicate (Int.toNat (a1.size : Int)) (0 : Int)).length : Int) then some (List.set b (Int.toNat a) c, c) else none)))) else none) >>= fun (e, f) => jx fu a1 e f (ax (a + 1))) else some b)
theorem pe {fu a1 a b c} : Le (jx fu a1 a b c) (bG a1 a b c) := by
  induction fu generalizing a1 a b c with
  | zero => exact Le.none
  | succ fu ih =>
    rw [bG]
    exact (li (lb (li (lb lr fun _ => (li (li lr lr) (li (li lr lr) (li lr lr)))) lr) fun _ => ih) lr)
def i2 (fu : Nat) (a1 : ByteArray) (a2 : Int) (c : List Int) (a : Int) (b : Int) : Option (((List Int)) × Option Nat) :=
  (bH (ax (a - 1)) c a2 >>= fun d => (bH b c a2 >>= fun e => (if d = e then (if (0 : Int) ≤ a ∧ (a : Int) ≤ b ∧ b ≤ ((List.replicate (Int.toNat (a1.size : Int)) (0 : Int)).length : Int) then (lL fu (fk c a b) d >>= fun f => some (List.take (Int.toNat a) c ++ (f ++ List.drop (Int.toNat b) c), none)) else none) else (if (0 : Int) ≤ a ∧ (a : Int) ≤ b ∧ b ≤ ((List.replicate (Int.toNat (a1.size : Int)) (0 : Int)).length : Int) then (lL fu (fk c a b) a2 >>= fun g => some (List.take (Int.toNat a) c ++ (g ++ List.drop (Int.toNat b) c), none)) else none))))
theorem oI {fu a1 a2 a b c} : Le (i2 fu a1 a2 a b c) (bc a1 a2 a b c) := by
  unfold i2 bc
  exact (lb lr fun _ => (lb lr fun _ => (li (li (lb pr fun _ => lr) lr) (li (lb pr fun _ => lr) lr))))
def lF (fu : Nat) (a1 : ByteArray) (a2 : Int) : Option ((List Int)) :=
  (if (0 : Int) ≤ (a1.size : Int) ∧ (8 : Int) * (a1.size : Int) ≤ 281474976710656 ∧ (a1.size : Int) ≤ 9223372036854775807 then (jx fu a1 (List.replicate (Int.toNat (a1.size : Int)) (0 : Int)) a2 0 >>= fun a => (fZ (gb a1) >>= fun b => (jy fu (j5 (fun (u : (List Int)) (x : Int × Int) => i2 fu a1 a2 u x.1 x.2)) (a, none) b >>= fun (c, d) => match d with | none => some c | some _ => none))) else none)
theorem qX {fu a1 a2} : Le (lF fu a1 a2) (dE a1 a2) := by
  unfold lF dE
  exact (li (lb pe fun _ => (lb lr fun _ => (lb (pj (rh fun _ _ => oI)) fun (b, a) => (match a with | none => lr | some _ => lr)))) lr)
def lm (fu : Nat) (a1 : ByteArray) (a2 : Int) (c : List Int) (b : List Int) (a : Int) : Option ((List Int)) := match fu with
  | 0 => none
  | fu + 1 => (if a < (c.length : Int) then ((if (0 : Int) ≤ a ∧ a < (c.length : Int) then (if (0 : Int) ≤ a2 ∧ a2 < (2 : Int) then (if (0 : Int) ≤ (b.getD (Int.toNat a) (0 : Int)) ∧ (b.getD (Int.toNat a) (0 : Int)) < (2 : Int) then (if (0 : Int) ≤ a ∧ a < (c.length : Int) then ((if (b.getD (Int.toNat a) (0 : Int)) = 1 then (if (0 : Int) ≤ a ∧ a < (a1.size : Int) then (dP (bt a1 a) >>= fun d => some (decide (d = 3))) else none) else some false) >>= fun e => (if e = true then (if (0 : Int) ≤ a ∧ a < (c.length : Int) then some (List.set (List.set b (Int.toNat a) (([0, 1, 2, 1] : List Int).getD (0 + Int.toNat a2 * 2 + Int.toNat (b.getD (Int.toNat a) (0 : Int)) * 1) 0)) (Int.toNat a) 2) else none) else some (List.set b (Int.toNat a) (([0, 1, 2, 1] : List Int).getD (0 + Int.toNat a2 * 2 + Int.toNat (b.getD (Int.toNat a) (0 : Int)) * 1) 0)))) else none) else none) else none) else none) >>= fun f => lm fu a1 a2 c f (ax (a + 1))) else some b)
theorem qY {fu a1 a2 a b c} : Le (lm fu a1 a2 a b c) (b9 a1 a2 a b c) := by
  induction fu generalizing a1 a2 a b c with
  | zero => exact Le.none
  | succ fu ih =>
    rw [b9]
    exact (li (lb (li (li (li (li (lb (li (li (lb lr fun _ => lr) lr) lr) fun _ => (li (li lr lr) lr)) lr) lr) lr) lr) fun _ => ih) lr)
def oA (fu : Nat) (a1 : ByteArray) (a2 : Int) : Option ((List Int) × Int) :=
  (ov fu a1 a2 >>= fun b => (if (!b) = true then some (([] : List Int), 1) else (lF fu a1 a2 >>= fun a => (lm fu a1 a2 a a 0 >>= fun c => some (c, 0)))))
theorem t8 {fu a1 a2} : Le (oA fu a1 a2) (iw a1 a2) := by
  unfold oA iw
  exact (lb ub fun _ => (li lr (lb qX fun _ => (lb qY fun _ => lr))))
def iF (fu : Nat) (b : List Int) (c : List Int) (d : Int) (a : Int) : Option (Int) := match fu with
  | 0 => none
  | fu + 1 => ((if a < (b.length : Int) then (if (0 : Int) ≤ a ∧ a < (b.length : Int) then (iM (b.getD (Int.toNat a) (0 : Int)) c d >>= fun e => some e) else none) else some false) >>= fun f => (if f = true then iF fu b c d (ax (a + 1)) else some a))
theorem nO {fu a b c d} : Le (iF fu a b c d) (bD a b c d) := by
  induction fu generalizing a b c d with
  | zero => exact Le.none
  | succ fu ih =>
    rw [bD]
    exact (lb (li (li (lb lr fun _ => lr) lr) lr) fun _ => (li ih lr))
def iE (fu : Nat) {σ : Type} (φ : σ → (Int × Int) → Option (σ × Bool)) (b : List Int) (e : List Int) (f : Int) (a : Int) (c : σ) : Option (Sum σ σ) := match fu with
  | 0 => none
  | fu + 1 => (if a < (b.length : Int) then (iF fu b e f a >>= fun d => ((if a < d then (φ c (a, d) >>= fun (h, i) => some (!i, h)) else some (false, c)) >>= fun (j, g) => (if j = true then some (Sum.inl g) else iE fu φ b e f (ax ((max a d) + 1)) g))) else some (Sum.inr c))
theorem nI {fu σ φ a b c d e} {φ' : σ → (Int × Int) → Option (σ × Bool)} (hφ : ∀ s x, Le (φ' s x) (φ s x)) : Le (iE fu φ' a b c d e) (aZ φ a b c d e) := by
  induction fu generalizing a b c d e with
  | zero => exact Le.none
  | succ fu ih =>
    rw [aZ]
    exact (li (lb nO fun _ => (lb (li (lb (hφ _ _) fun _ => lr) lr) fun _ => (li lr ih))) lr)
def jX (fu : Nat) {σ : Type} (φ : σ → (Int × Int) → Option (σ × Bool)) (sy : σ) (a : List Int) (b : List Int) (c : Int) : Option (σ) :=
  (iE fu φ a b c 0 sy >>= fun d => match d with | (Sum.inl e) => some e | (Sum.inr f) => some f)
theorem pC {fu σ φ sy a b c} {φ' : σ → (Int × Int) → Option (σ × Bool)} (hφ : ∀ s x, Le (φ' s x) (φ s x)) : Le (jX fu φ' sy a b c) (et φ sy a b c) := by
  unfold jX et
  exact (lb (nI hφ) fun d => (match d with | (Sum.inl e) => lr | (Sum.inr f) => lr))
def gj (fu : Nat) (a1 : List Int) (c : List Int) (a : Int) (b : Int) : Option ((List Int)) := match fu with
  | 0 => none
  | fu + 1 => (if a < b then (if (0 : Int) ≤ b ∧ b < (a1.length : Int) then (if (0 : Int) ≤ a ∧ a < (a1.length : Int) then (if (0 : Int) ≤ a ∧ a < (a1.length : Int) then (if (0 : Int) ≤ b ∧ b < (a1.length : Int) then gj fu a1 (List.set (List.set c (Int.toNat a) (c.getD (Int.toNat b) (0 : Int))) (Int.toNat b) (c.getD (Int.toNat a) (0 : Int))) (ax (a + 1)) (ax (b - 1)) else none) else none) else none) else none) else some c)
theorem mH {fu a1 a b c} : Le (gj fu a1 a b c) (bf a1 a b c) := by
  induction fu generalizing a1 a b c with
  | zero => exact Le.none
  | succ fu ih =>
    rw [bf]
    exact (li (li (li (li (li ih lr) lr) lr) lr) lr)
def iT (fu : Nat) (a1 : List Int) : Option ((List Int)) :=
  (gj fu a1 a1 0 (ax ((a1.length : Int) - 1)) >>= fun a => some a)
theorem ox {fu a1} : Le (iT fu a1) (cn a1) := by
  unfold iT cn
  exact (lb mH fun _ => lr)
def km (fu : Nat) (a1 : List Int) (c : List Int) (a : Int) (b : Int) : Option (((List Int)) × Option Nat) :=
  (if (0 : Int) ≤ a ∧ (a : Int) ≤ b ∧ b ≤ (a1.length : Int) then (iT fu (fk c a b) >>= fun d => some (List.take (Int.toNat a) c ++ (d ++ List.drop (Int.toNat b) c), none)) else none)
theorem qf {fu a1 a b c} : Le (km fu a1 a b c) (bE a1 a b c) := by
  unfold km bE
  exact (li (lb ox fun _ => lr) lr)
def kR (fu : Nat) (a1 : List Int) (b : List Int) (a17 : List Int) (c : List Int) (a : Int) : Option ((List Int)) := match fu with
  | 0 => none
  | fu + 1 => (if a < (a17.length : Int) then (if (0 : Int) ≤ a ∧ a < (a17.length : Int) then (de c >>= fun (d, e) => (gw d b (a17.getD (Int.toNat a) (0 : Int)) >>= fun f => (jX fu (j5 (fun (u : (List Int)) (x : Int × Int) => km fu a1 u x.1 x.2)) (e, none) f b (a17.getD (Int.toNat a) (0 : Int)) >>= fun (g, h) => match h with | none => kR fu a1 b a17 g (ax (a + 1)) | some _ => none))) else none) else some c)
theorem qB {fu a1 a a17 b c} : Le (kR fu a1 a a17 b c) (bn a1 a a17 b c) := by
  induction fu generalizing a1 a a17 b c with
  | zero => exact Le.none
  | succ fu ih =>
    rw [bn]
    exact (li (li (lb lr fun _ => (lb lr fun _ => (lb (pC (rh fun _ _ => qf)) fun (e, d) => (match d with | none => ih | some _ => lr)))) lr) lr)
def ny (fu : Nat) (a1 : List Int) (a : List Int) (a17 : List Int) : Option ((List Int)) :=
  (kR fu a1 a a17 a1 0 >>= fun b => some b)
theorem s6 {fu a1 a a17} : Le (ny fu a1 a a17) (jd a1 a a17) := by
  unfold ny jd
  exact (lb qB fun _ => lr)
def mf (fu : Nat) (a1 : ByteArray) (b : List Int) (a : Int) : Option ((List Int)) := match fu with
  | 0 => none
  | fu + 1 => (if a < ((List.replicate (Int.toNat (a1.size : Int)) (0 : Int)).length : Int) then (if (0 : Int) ≤ a ∧ a < ((List.replicate (Int.toNat (a1.size : Int)) (0 : Int)).length : Int) then mf fu a1 (List.set b (Int.toNat a) a) (ax (a + 1)) else none) else some b)
theorem ru {fu a1 a b} : Le (mf fu a1 a b) (dT a1 a b) := by
  induction fu generalizing a1 a b with
  | zero => exact Le.none
  | succ fu ih =>
    rw [dT]
    exact (li (li ih lr) lr)
def pm (fu : Nat) (a1 : ByteArray) (a2 : Int) : Option ((List Int) × Int) :=
  (oA fu a1 a2 >>= fun (b, a) => (if ¬ a = 0 then some (([] : List Int), a) else (if (0 : Int) ≤ (a1.size : Int) ∧ (8 : Int) * (a1.size : Int) ≤ 281474976710656 ∧ (a1.size : Int) ≤ 9223372036854775807 then (mf fu a1 (List.replicate (Int.toNat (a1.size : Int)) (0 : Int)) 0 >>= fun c => (ny fu c b ([2, 1] : List Int) >>= fun d => some (d, 0))) else none)))
theorem uo {fu a1 a2} : Le (pm fu a1 a2) (i1 a1 a2) := by
  unfold pm i1
  exact (lb t8 fun _ => (li lr (li (lb ru fun _ => (lb s6 fun _ => lr)) lr)))
def lM (fu : Nat) (a1 : ByteArray) (b : List Int) (c : List Int) (a : Int) : Option ((List Int)) := match fu with
  | 0 => none
  | fu + 1 => (if a < (b.length : Int) then (if (0 : Int) ≤ a ∧ a < (b.length : Int) then (if (0 : Int) ≤ b.getD (Int.toNat a) (0 : Int) ∧ b.getD (Int.toNat a) (0 : Int) < (a1.size : Int) then (if (0 : Int) ≤ a ∧ a < ((List.replicate (Int.toNat (b.length : Int)) (0 : Int)).length : Int) then lM fu a1 b (List.set c (Int.toNat a) (bt a1 (b.getD (Int.toNat a) (0 : Int)))) (ax (a + 1)) else none) else none) else none) else some c)
theorem q8 {fu a1 a b c} : Le (lM fu a1 a b c) (dD a1 a b c) := by
  induction fu generalizing a1 a b c with
  | zero => exact Le.none
  | succ fu ih =>
    rw [dD]
    exact (li (li (li (li ih lr) lr) lr) lr)
def oC (fu : Nat) (a1 : ByteArray) (a2 : Int) : Option (ByteArray × Int) :=
  (pm fu a1 a2 >>= fun (a, b) => (if (0 : Int) ≤ (a.length : Int) ∧ (1 : Int) * (a.length : Int) ≤ 281474976710656 ∧ (a.length : Int) ≤ 9223372036854775807 then (lM fu a1 a (List.replicate (Int.toNat (a.length : Int)) (0 : Int)) 0 >>= fun c => some (qI c, b)) else none))
theorem t7 {fu a1 a2} : Le (oC fu a1 a2) (iy a1 a2) := by
  unfold oC iy
  exact (lb uo fun _ => (li (lb q8 fun _ => lr) lr))
def nH (fu : Nat) (a1 : ai) (a10 : ByteArray) (a : az) (g : Int) (b : Int) (c : Int) (d : Int) : Option (ByteArray × Int × Int) :=
  (aY g 50 300 >>= fun j => ((if j = true then (aY b 0 1000000000 >>= fun k => some k) else some false) >>= fun l => ((if l = true then (aY c 0 2 >>= fun m => some m) else some false) >>= fun n => ((if n = true then (aY d 0 1 >>= fun o => some o) else some false) >>= fun p => ((if (!p) = true then some true else (lk fu a1 >>= fun q => some (!q))) >>= fun r => ((if r = true then some true else (iz fu a10 >>= fun s => some (!s))) >>= fun t => ((if t = true then some true else some (decide (a.From < 0))) >>= fun u => ((if u = true then some true else some (decide (a.Until ≤ a.From))) >>= fun v => ((if v = true then some true else some (decide ((a10.size : Int) < a.Until))) >>= fun w => (if w = true then some ((⟨#[]⟩ : ByteArray), 0, 1) else (ix a10 a.From a.Until a.Hyphen >>= fun h => (mX fu a1 h g >>= fun (e, i) => (if ¬ i = 0 then some ((⟨#[]⟩ : ByteArray), 0, i) else (if ¬ e = a.Width then some ((⟨#[]⟩ : ByteArray), 0, 1) else (oC fu h d >>= fun (f, x) => (if c = d then some (f, 0, 0) else (if c = 2 then some (f, Int.fdiv (ax (b - e)) (2 ^ 1), 0) else some (f, ax (b - e), 0))))))))))))))))))
theorem s5 {fu a1 a10 a b c d e} : Le (nH fu a1 a10 a b c d e) (dH a1 a10 a b c d e) := by
  unfold nH dH
  exact (lb lr fun _ => (lb (li (lb lr fun _ => lr) lr) fun _ => (lb (li (lb lr fun _ => lr) lr) fun _ => (lb (li (lb lr fun _ => lr) lr) fun _ => (lb (li lr (lb om fun _ => lr)) fun _ => (lb (li lr (lb ju fun _ => lr)) fun _ => (lb (li lr lr) fun _ => (lb (li lr lr) fun _ => (lb (li lr lr) fun _ => (li lr (lb lr fun _ => (lb qM fun _ => (li lr (li lr (lb t7 fun _ => (li lr (li lr lr)))))))))))))))))
def jB (fu : Nat) (a1 : aX) (e : Int) (g : Bool) (h : Int) (i : ByteArray) (j : Int) (k : Int) (m : Int) (n : Int) (d : Int) (o : Bool) : Option ((Bool × Int × ByteArray × Int × Int × Int × Int) × Option Nat) :=
  (og fu a1.l a1.width d a1.line >>= fun (a, p) => (if ¬ p = 0 then some ((false, 0, (⟨#[]⟩ : ByteArray), 0, 0, 0, 0), (some 0)) else (mq fu a1.f a1.b a1.s e a1.scale (ax (a.Hi - a.Lo)) >>= fun (c, u) => ((if (ax (a.Hi - a.Lo)) < c.Width then some o else some false) >>= fun q => (if q = true then some ((g, h, i, j, k, m, n), none) else (nH fu a1.f a1.s c a1.scale (ax (a.Hi - a.Lo)) a1.align a1.dir >>= fun (r, t, v) => some ((true, c.Until, r, ax (a.Lo + t), d, c.Width, a1.line), (some 0))))))))
theorem pd {fu a1 a b c d e f g h i j} : Le (jB fu a1 a b c d e f g h i j) (bq a1 a b c d e f g h i j) := by
  unfold jB bq
  exact (lb ue fun _ => (li lr (lb pW fun _ => (lb (li lr lr) fun _ => (li lr (lb s5 fun _ => lr))))))
def lI (fu : Nat) (a1 : aX) (a : Int) (b : Int) : Option (an × Int × Bool) :=
  (gh a1 b >>= fun (c, d) => (gE fu (j5 (fun (u : Bool × Int × ByteArray × Int × Int × Int × Int) (x : Int × Bool) => jB fu a1 a u.1 u.2.1 u.2.2.1 u.2.2.2.1 u.2.2.2.2.1 u.2.2.2.2.2.1 u.2.2.2.2.2.2 x.1 x.2)) ((false, 0, (⟨#[]⟩ : ByteArray), 0, 0, 0, 0), none) c d >>= fun (m, (e, f, g, h, i, j, k), l) => match l with | none => some ((⟨(⟨#[]⟩ : ByteArray), 0, 0, 0, 0⟩ : an), 0, false) | some 0 => some ((⟨g, h, i, j, k⟩ : an), f, e) | some _ => none))
theorem qW {fu a1 a b} : Le (lI fu a1 a b) (ga a1 a b) := by
  unfold lI ga
  exact (lb lr fun _ => (lb (m7 (rh fun _ _ => pd)) fun (d, (e, f, g, h, i, j, k), c) => (match c with | none => lr | some 0 => lr | some (_ + 1) => lr)))
def lH (fu : Nat) (a1 : ByteArray) (c : Int) (a4 : aX) (d : Int) (b : List an) (a : Int) : Option (Sum Unit (Int × (List an))) := match fu with
  | 0 => none
  | fu + 1 => (if (0 : Int) ≤ a ∧ (a : Int) ≤ (a1.size : Int) then (m5 fu (sub a1 a (a1.size : Int)) >>= fun (f, i) => (if f = 0 then some (Sum.inr (d, b)) else (lI fu a4 a d >>= fun (e, g, h) => (if (!h) = true then some (Sum.inl ()) else (if b.length + 1 ≤ 2932031007402 then lH fu a1 c a4 (ax (e.Y + c)) (b ++ [e]) g else none))))) else none)
theorem rb {fu a1 a a4 b c d} : Le (lH fu a1 a a4 b c d) (fh a1 a a4 b c d) := by
  induction fu generalizing a1 a a4 b c d with
  | zero => exact Le.none
  | succ fu ih =>
    rw [fh]
    exact (li (lb qL fun _ => (li lr (lb qW fun _ => (li lr (li ih lr))))) lr)
def oq (fu : Nat) (a1 : ByteArray) (a2 : Int) (b : Int) (a4 : aX) : Option ((List an) × Int × Bool) :=
  (lH fu a1 b a4 a2 ([] : List an) 0 >>= fun c => match c with | (Sum.inl _) => some (([] : List an), 0, false) | (Sum.inr (a, d)) => some (d, a, decide (a ≤ 1000000000)))
theorem tw {fu a1 a2 a a4} : Le (oq fu a1 a2 a a4) (k5 a1 a2 a a4) := by
  unfold oq k5
  exact (lb rb fun b => (match b with | (Sum.inl _) => lr | (Sum.inr (c, d)) => lr))
def i6 (fu : Nat) (a1 : ai) (a10 : ak) (a : ByteArray) (b : Int) (a17 : Int) (c : Int) (d : Int) (e : Int) (f : Int) (a22 : List ab) : Option ((List an) × Int × Int) :=
  (kv fu (⟨a1, a10, a, b, a17, c, d, e, a22⟩ : aX) f >>= fun g => (if ¬ g = 0 then some (([] : List an), 0, g) else (oq fu a f a17 (⟨a1, a10, a, b, a17, c, d, e, a22⟩ : aX) >>= fun (h, i, j) => (if (!j) = true then some (([] : List an), 0, 3) else some (h, i, 0)))))
theorem kx {fu a1 a10 a b a17 c d e f a22} : Le (i6 fu a1 a10 a b a17 c d e f a22) (fC a1 a10 a b a17 c d e f a22) := by
  unfold i6 fC
  exact (lb qg fun _ => (li lr (lb tw fun _ => (li lr lr))))
def jP (fu : Nat) (a : Int) (b : List aA) : Option ((List aA)) := match fu with
  | 0 => none
  | fu + 1 => (if a ≤ 104 then (if b.length + 1 ≤ 8796093022208 then jP fu (uG (a + 1)) (b ++ [(⟨a, 10⟩ : aA)]) else none) else some b)
theorem pF {fu a b} : Le (jP fu a b) (gJ a b) := by
  induction fu generalizing a b with
  | zero => exact Le.none
  | succ fu ih =>
    rw [gJ]
    exact (li (li ih lr) lr)
def fJ (fu : Nat) : Option (ai) :=
  (jP fu 97 ([(⟨32, 10⟩ : aA), (⟨45, 10⟩ : aA)] : List aA) >>= fun a => some (⟨a, ([] : List bX)⟩ : ai))
theorem iB {fu} : Le (fJ fu) (eR) := by
  unfold fJ eR
  exact (lb pF fun _ => lr)
def nV (fu : Nat) : Option (Bool) :=
  (fJ fu >>= fun a => (i6 fu a (⟨1, 1, ([] : List ByteArray)⟩ : ak) (⟨#[97, 98, 32, 99, 100, 32, 101, 102]⟩ : ByteArray) 100 12 0 0 50 0 ([(⟨1, 0, 0, 30, 20⟩ : ab)] : List ab) >>= fun (b, c, d) => (fJ fu >>= fun e => (i6 fu e (⟨1, 1, ([] : List ByteArray)⟩ : ak) (⟨#[97, 98, 32, 99, 100, 32, 101, 102]⟩ : ByteArray) 100 12 0 0 50 0 ([(⟨1, 0, 0, 45, 20⟩ : ab)] : List ab) >>= fun (f, g, h) => (fJ fu >>= fun i => (i6 fu i (⟨1, 1, ([] : List ByteArray)⟩ : ak) (⟨#[32]⟩ : ByteArray) 100 12 0 0 50 7 ([(⟨1, 0, 0, 45, 20⟩ : ab)] : List ab) >>= fun (j, k, l) => (fJ fu >>= fun m => (i6 fu m (⟨1, 1, ([] : List ByteArray)⟩ : ak) (⟨#[120]⟩ : ByteArray) 100 12 0 0 50 0 ([] : List ab) >>= fun (D, E, n) => (fJ fu >>= fun o => (i6 fu o (⟨1, 1, ([] : List ByteArray)⟩ : ak) (⟨#[97]⟩ : ByteArray) 100 12 3 0 50 0 ([] : List ab) >>= fun (F, G, p) => ((if d = 0 then some (decide (h = 0)) else some false) >>= fun q => ((if q = true then some (decide (l = 0)) else some false) >>= fun r => ((if r = true then some (decide (n = 20)) else some false) >>= fun s => ((if s = true then some (decide (p = 1)) else some false) >>= fun t => ((if t = true then (jG fu b ([(⟨(⟨#[97, 98]⟩ : ByteArray), 30, 0, 20, 12⟩ : an), (⟨(⟨#[99, 100]⟩ : ByteArray), 30, 12, 20, 12⟩ : an), (⟨(⟨#[101, 102]⟩ : ByteArray), 0, 24, 20, 12⟩ : an)] : List an) >>= fun u => some u) else some false) >>= fun v => ((if v = true then some (decide (c = 36)) else some false) >>= fun w => ((if w = true then (jG fu f ([(⟨(⟨#[97, 98, 32, 99, 100]⟩ : ByteArray), 0, 20, 50, 12⟩ : an), (⟨(⟨#[101, 102]⟩ : ByteArray), 0, 32, 20, 12⟩ : an)] : List an) >>= fun x => some x) else some false) >>= fun y => ((if y = true then some (decide (g = 44)) else some false) >>= fun A => ((if A = true then some (decide ((j.length : Int) = 0)) else some false) >>= fun B => ((if B = true then some (decide (k = 7)) else some false) >>= fun C => some C))))))))))))))))))))
theorem qR {fu} : Le (nV fu) (ig) := by
  unfold nV ig
  exact (lb iB fun _ => (lb kx fun _ => (lb iB fun _ => (lb kx fun _ => (lb iB fun _ => (lb kx fun _ => (lb iB fun _ => (lb kx fun _ => (lb iB fun _ => (lb kx fun _ => (lb (li lr lr) fun _ => (lb (li lr lr) fun _ => (lb (li lr lr) fun _ => (lb (li lr lr) fun _ => (lb (li (lb nn fun _ => lr) lr) fun _ => (lb (li lr lr) fun _ => (lb (li (lb nn fun _ => lr) lr) fun _ => (lb (li lr lr) fun _ => (lb (li lr lr) fun _ => (lb (li lr lr) fun _ => lr))))))))))))))))))))
end Go.Proofs.YtaemgcpcfnbmdaaGreatDoor.LG
