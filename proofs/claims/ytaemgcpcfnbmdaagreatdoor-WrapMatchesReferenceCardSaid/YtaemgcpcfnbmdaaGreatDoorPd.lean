/-
  What the functions compute, as plain Lean functions: printed by a program out of the translation.
-/
import Derived.Test.YtaemgcpcfnbmdaaGreatDoorLgP
import Derived.Lib.Replace
import Derived.Lib.TrimByte
set_option linter.unusedVariables false
set_option linter.defProp false
set_option synthInstance.maxSize 4000
set_option synthInstance.maxHeartbeats 1000000
namespace Go.Proofs.YtaemgcpcfnbmdaaGreatDoor.LG
open Go Go.LG
structure an where
  Text : ByteArray
  X : Int
  Y : Int
  W : Int
  H : Int
  deriving DecidableEq
def cu : an := ⟨(⟨#[]⟩ : ByteArray), (0 : Int), (0 : Int), (0 : Int), (0 : Int)⟩
structure aA where
  Byte : Int
  Advance : Int
  deriving DecidableEq
def ao : aA := ⟨(0 : Int), (0 : Int)⟩
structure bX where
  Left : Int
  Right : Int
  By : Int
  deriving DecidableEq
def am : bX := ⟨(0 : Int), (0 : Int), (0 : Int)⟩
structure ai where
  Glyphs : List aA
  Kerns : List bX
  deriving DecidableEq
def xB : ai := ⟨([] : List aA), ([] : List bX)⟩
structure aO where
  left : Int
  right : Int
  deriving DecidableEq
def C6 : aO := ⟨(0 : Int), (0 : Int)⟩
structure ak where
  Before : Int
  Behind : Int
  Keep : List ByteArray
  deriving DecidableEq
def vD : ak := ⟨(0 : Int), (0 : Int), ([] : List ByteArray)⟩
structure ah where
  At : Int
  Hyphen : Bool
  deriving DecidableEq
def aG : ah := ⟨(0 : Int), false⟩
structure az where
  From : Int
  Until : Int
  Width : Int
  Hyphen : Bool
  deriving DecidableEq
def Di : az := ⟨(0 : Int), (0 : Int), (0 : Int), false⟩
structure ab where
  Side : Int
  X : Int
  Y : Int
  W : Int
  H : Int
  deriving DecidableEq
def ag : ab := ⟨(0 : Int), (0 : Int), (0 : Int), (0 : Int), (0 : Int)⟩
structure aX where
  f : ai
  b : ak
  s : ByteArray
  scale : Int
  line : Int
  align : Int
  dir : Int
  width : Int
  l : List ab
  deriving DecidableEq
def BK : aX := ⟨xB, vD, (⟨#[]⟩ : ByteArray), (0 : Int), (0 : Int), (0 : Int), (0 : Int), (0 : Int), ([] : List ab)⟩
structure f8 where
  Lo : Int
  Hi : Int
  deriving DecidableEq
def C4 : f8 := ⟨(0 : Int), (0 : Int)⟩
structure gt where
  Float : ab
  deriving DecidableEq
def zW : gt := ⟨ag⟩
structure eX where
  Scale : Int
  Line : Int
  Align : Int
  Dir : Int
  Width : Int
  Y : Int
  deriving DecidableEq
def yX : eX := ⟨(0 : Int), (0 : Int), (0 : Int), (0 : Int), (0 : Int), (0 : Int)⟩
def cL (a1 : List an) (a6 : List an) (a : Int) : Option (Sum Unit Unit) :=
  (if a < (a1.length : Int) then (if (0 : Int) ≤ a ∧ a < (a1.length : Int) then (if (0 : Int) ≤ a ∧ a < (a6.length : Int) then (if ¬ (a1.getD (Int.toNat a) cu) = (a6.getD (Int.toNat a) cu) then some (Sum.inl ()) else cL a1 a6 (ax (a + 1))) else none) else none) else some (Sum.inr ()))
  partial_fixpoint
def ec (a1 : List an) (a6 : List an) : Option (Bool) :=
  (if ¬ (a1.length : Int) = (a6.length : Int) then some false else (cL a1 a6 0 >>= fun a => match a with | (Sum.inl _) => some false | (Sum.inr _) => some true))
def cmp_isNaN_int (a1 : Int) : Option (Bool) :=
  some (decide (¬ a1 = a1))
def ic (a1 : Int) (a2 : Int) : Option (Int) :=
  (cmp_isNaN_int a1 >>= fun b => (cmp_isNaN_int a2 >>= fun a => (if b = true then (if a = true then some 0 else some (-1)) else (if a = true then some 1 else (if a1 < a2 then some (-1) else (if a2 < a1 then some 1 else some 0))))))
def aY (a1 : Int) (a2 : Int) (a : Int) : Option (Bool) :=
  (ic a1 a2 >>= fun b => ((if 0 ≤ b then (ic a1 a >>= fun c => some (decide (c ≤ 0))) else some false) >>= fun d => some d))
def jU (a1 : Int) : Option (Bool) :=
  (aY a1 0 1000000000 >>= fun a => some (!a))
def fP (a1 : Int) : Option (Bool) :=
  some (decide (¬ a1 = a1))
def cy (a1 : Int) (a2 : Int) : Option (Int) :=
  (fP a1 >>= fun b => (fP a2 >>= fun a => (if b = true then (if a = true then some 0 else some (-1)) else (if a = true then some 1 else (if a1 < a2 then some (-1) else (if a2 < a1 then some 1 else some 0))))))
def iA (a1 : aA) (a2 : Int) : Option (Int) :=
  (cy a1.Byte a2 >>= fun a => some a)
def aI (a1 : List aA) (a6 : Int) (a : Int) (b : Int) : Option (Int) :=
  (if a < b then (if (0 : Int) ≤ ax (Int.fdiv (IntKind.wrap .u64 (ax (a + b))) (2 ^ 1)) ∧ ax (Int.fdiv (IntKind.wrap .u64 (ax (a + b))) (2 ^ 1)) < (a1.length : Int) then (iA (a1.getD (Int.toNat (ax (Int.fdiv (IntKind.wrap .u64 (ax (a + b))) (2 ^ 1)))) ao) a6 >>= fun c => (if c < 0 then aI a1 a6 (ax ((ax (Int.fdiv (IntKind.wrap .u64 (ax (a + b))) (2 ^ 1))) + 1)) b else aI a1 a6 a (ax (Int.fdiv (IntKind.wrap .u64 (ax (a + b))) (2 ^ 1))))) else none) else some a)
  partial_fixpoint
def bJ (a1 : List aA) (a6 : Int) : Option (Int × Bool) :=
  (aI a1 a6 0 (a1.length : Int) >>= fun a => ((if a < (a1.length : Int) then (if (0 : Int) ≤ a ∧ a < (a1.length : Int) then (iA (a1.getD (Int.toNat a) ao) a6 >>= fun b => some (decide (b = 0))) else none) else some false) >>= fun c => some (a, c)))
def eT (a1 : List aA) (a6 : Int) : Option (aA × Bool) :=
  (bJ a1 a6 >>= fun (a, b) => (if (!b) = true then some ((⟨0, 0⟩ : aA), false) else (if (0 : Int) ≤ a ∧ a < (a1.length : Int) then some ((a1.getD (Int.toNat a) ao), true) else none)))
def fE (a1 : ai) (a10 : Int) : Option (aA × Bool) :=
  (eT a1.Glyphs a10 >>= fun (a, b) => some (a, b))
def fQ (a1 : List Int) (a : Int) : Option (Sum Int Unit) :=
  (if a < (a1.length : Int) then (if (0 : Int) ≤ a ∧ a < (a1.length : Int) then (if ¬ (a1.getD (Int.toNat a) (0 : Int)) = 0 then some (Sum.inl (a1.getD (Int.toNat a) (0 : Int))) else fQ a1 (ax (a + 1))) else none) else some (Sum.inr ()))
  partial_fixpoint
def kV (a1 : List Int) : Option (Int) :=
  (fQ a1 0 >>= fun a => match a with | (Sum.inl b) => some b | (Sum.inr _) => some 0)
def gH (a1 : bX) (a2 : aO) : Option (Int) :=
  (cy a1.Left a2.left >>= fun a => (cy a1.Right a2.right >>= fun b => (kV ([a, b] : List Int) >>= fun c => some c)))
def cA (a1 : ai) (a : Int) : Option (Sum Unit Unit) :=
  (if a < (a1.Glyphs.length : Int) then (if (0 : Int) ≤ a ∧ a < (a1.Glyphs.length : Int) then ((if ((a1.Glyphs.getD (Int.toNat a) ao).Byte) < 32 then some true else (if 126 ≤ ((a1.Glyphs.getD (Int.toNat a) ao).Byte) then some true else (if ((a1.Glyphs.getD (Int.toNat a) ao).Advance) < 0 then some true else (if 1000 < ((a1.Glyphs.getD (Int.toNat a) ao).Advance) then some true else (if 0 < a then (if (0 : Int) ≤ ax (a - 1) ∧ ax (a - 1) < (a1.Glyphs.length : Int) then some (decide (((a1.Glyphs.getD (Int.toNat a) ao).Byte) ≤ ((a1.Glyphs.getD (Int.toNat (ax (a - 1))) ao).Byte))) else none) else some false))))) >>= fun b => (if b = true then some (Sum.inl ()) else cA a1 (ax (a + 1)))) else none) else some (Sum.inr ()))
  partial_fixpoint
def cf (a1 : ai) (a : Int) : Option (Sum Unit Unit) :=
  (if a < (a1.Kerns.length : Int) then (if (0 : Int) ≤ a ∧ a < (a1.Kerns.length : Int) then (fE a1 ((a1.Kerns.getD (Int.toNat a) am).Left) >>= fun (b, c) => (fE a1 ((a1.Kerns.getD (Int.toNat a) am).Right) >>= fun (j, d) => ((if (!c) = true then some true else some (!d)) >>= fun e => ((if e = true then some true else some (decide (1000 < ((a1.Kerns.getD (Int.toNat a) am).By)))) >>= fun f => ((if f = true then some true else some (decide (((a1.Kerns.getD (Int.toNat a) am).By) < (ax (0 - b.Advance))))) >>= fun g => (if g = true then some (Sum.inl ()) else ((if 0 < a then (if (0 : Int) ≤ ax (a - 1) ∧ ax (a - 1) < (a1.Kerns.length : Int) then (gH (a1.Kerns.getD (Int.toNat (ax (a - 1))) am) (⟨(a1.Kerns.getD (Int.toNat a) am).Left, (a1.Kerns.getD (Int.toNat a) am).Right⟩ : aO) >>= fun h => some (decide (0 ≤ h))) else none) else some false) >>= fun i => (if i = true then some (Sum.inl ()) else cf a1 (ax (a + 1)))))))))) else none) else some (Sum.inr ()))
  partial_fixpoint
def aU (a1 : ai) : Option (Bool) :=
  ((if 94 < (a1.Glyphs.length : Int) then some true else some (decide (200 < (a1.Kerns.length : Int)))) >>= fun a => (if a = true then some false else (cA a1 0 >>= fun b => match b with | (Sum.inl _) => some false | (Sum.inr _) => (cf a1 0 >>= fun c => match c with | (Sum.inl _) => some false | (Sum.inr _) => some true))))
def dP (a1 : Int) : Option (Int) :=
  (if a1 = 32 then some 4 else (if a1 = 126 then some 6 else ((if a1 < 32 then some true else some (decide (126 < a1))) >>= fun a => (if a = true then some 0 else ((if 97 ≤ a1 then some (decide (a1 ≤ 122)) else some false) >>= fun b => (if b = true then some 1 else ((if 65 ≤ a1 then some (decide (a1 ≤ 90)) else some false) >>= fun c => (if c = true then some 2 else ((if 48 ≤ a1 then some (decide (a1 ≤ 57)) else some false) >>= fun d => (if d = true then some 3 else some 5))))))))))
def fR (a1 : ByteArray) (a : Nat) : Option (Sum Nat Nat) :=
  (if a < a1.size then ((if 126 < ((Utf8.decode a1 a).1 : Int) then some true else (dP (uG (((Utf8.decode a1 a).1 : Int))) >>= fun b => some (decide (b = 0)))) >>= fun c => (if c = true then some (Sum.inl (a + (Utf8.decode a1 a).2)) else fR a1 (a + (Utf8.decode a1 a).2))) else some (Sum.inr a))
  partial_fixpoint
def gf (a1 : ByteArray) : Option (Bool) :=
  (fR a1 0 >>= fun a => match a with | (Sum.inl b) => some false | (Sum.inr c) => some (decide ((a1.size : Int) ≤ 2000)))
def gq (a1 : Int) : Option (Bool) :=
  ((if 1 ≤ a1 then some (decide (a1 ≤ 5)) else some false) >>= fun a => some a)
def fM (a1 : Int) : Option (Bool) :=
  ((if 97 ≤ a1 then some (decide (a1 ≤ 122)) else some false) >>= fun a => some a)
def dF (a1 : ak) (a : Int) (b : List (ByteArray × Bool)) : Option (Sum (List (ByteArray × Bool)) (List (ByteArray × Bool))) :=
  (if a < (a1.Keep.length : Int) then (if (0 : Int) ≤ a ∧ a < (a1.Keep.length : Int) then ((if ¬ ((a1.Keep.getD (Int.toNat a) (⟨#[]⟩ : ByteArray)).size : Int) = 2 then some true else (if (0 : Int) ≤ 0 ∧ 0 < ((a1.Keep.getD (Int.toNat a) (⟨#[]⟩ : ByteArray)).size : Int) then (fM (bt (a1.Keep.getD (Int.toNat a) (⟨#[]⟩ : ByteArray)) 0) >>= fun c => some (!c)) else none)) >>= fun d => ((if d = true then some true else (if (0 : Int) ≤ 1 ∧ 1 < ((a1.Keep.getD (Int.toNat a) (⟨#[]⟩ : ByteArray)).size : Int) then (fM (bt (a1.Keep.getD (Int.toNat a) (⟨#[]⟩ : ByteArray)) 1) >>= fun e => some (!e)) else none)) >>= fun f => ((if f = true then some true else some ((oo b (a1.Keep.getD (Int.toNat a) (⟨#[]⟩ : ByteArray))).getD false)) >>= fun g => (if g = true then some (Sum.inl b) else dF a1 (ax (a + 1)) (rj b (a1.Keep.getD (Int.toNat a) (⟨#[]⟩ : ByteArray)) true))))) else none) else some (Sum.inr b))
  partial_fixpoint
def ja (a1 : ak) : Option (Bool) :=
  (gq a1.Before >>= fun a => ((if (!a) = true then some true else (gq a1.Behind >>= fun b => some (!b))) >>= fun c => ((if c = true then some true else some (decide (20 < (a1.Keep.length : Int)))) >>= fun d => (if d = true then some false else (dF a1 0 ([] : List (ByteArray × Bool)) >>= fun e => match e with | (Sum.inl f) => some false | (Sum.inr g) => some true)))))
def dA (a1 : ak) (a : Int) (b : List (ByteArray × Bool)) : Option ((List (ByteArray × Bool))) :=
  (if a < (a1.Keep.length : Int) then (if (0 : Int) ≤ a ∧ a < (a1.Keep.length : Int) then dA a1 (ax (a + 1)) (rj b (a1.Keep.getD (Int.toNat a) (⟨#[]⟩ : ByteArray)) true) else none) else some b)
  partial_fixpoint
def gO (a1 : ak) (a6 : ByteArray) : Option (Int × Int × (List ByteArray) × ByteArray × (List (ByteArray × Bool)) × Bool) :=
  (dA a1 0 ([] : List (ByteArray × Bool)) >>= fun a => ((ja a1 >>= fun b => (if b = true then (gf a6 >>= fun c => some c) else some false)) >>= fun d => some (a1.Before, a1.Behind, a1.Keep, a6, a, d)))
def gr (a1 : Int) : Option (Bool) :=
  (dP a1 >>= fun a => ((if a = 1 then some true else (dP a1 >>= fun b => some (decide (b = 2)))) >>= fun c => some c))
def im (a1 : Int) : Option (Bool) :=
  (gr a1 >>= fun a => ((if a = true then some true else (dP a1 >>= fun b => some (decide (b = 3)))) >>= fun c => some c))
def eQ (a1 : Int) (a2 : Int) (a : List ByteArray) (b : ByteArray) (c : List (ByteArray × Bool)) : Option (Int × Int × (List ByteArray) × ByteArray) :=
  some (a1, a2, a, b)
def br (a : Int) (a6 : Int) (g : Int) (h : List ByteArray) (b : ByteArray) (i : List (ByteArray × Bool)) : Option (Bool) :=
  ((if 0 ≤ a then some (decide (a < (b.size : Int))) else some false) >>= fun c => ((if c = true then (if (0 : Int) ≤ a ∧ a < (b.size : Int) then (gr (bt b a) >>= fun d => ((if d = true then some true else (if (0 : Int) ≤ a ∧ a < (b.size : Int) then some (decide ((bt b a) = 126)) else none)) >>= fun e => some e)) else none) else some false) >>= fun f => some f))
def bQ (a1 : Int) (a2 : Int) (d : List ByteArray) (b : ByteArray) (e : List (ByteArray × Bool)) (c : List Int) (a : Int) : Option ((List Int) × Int) :=
  (br a a1 a2 d b e >>= fun f => (if f = true then ((if (0 : Int) ≤ a ∧ a < (b.size : Int) then (if ¬ (bt b a) = 126 then (if (0 : Int) ≤ a ∧ a < (b.size : Int) then (if c.length + 1 ≤ 140737488355328 then some (c ++ [bt b a]) else none) else none) else some c) else none) >>= fun g => bQ a1 a2 d b e g (ax (a + (-1)))) else some (c, a)))
  partial_fixpoint
def bI (a1 : Int) (a2 : Int) (d : List ByteArray) (b : ByteArray) (e : List (ByteArray × Bool)) (c : List Int) (a : Int) : Option ((List Int) × Int) :=
  (br a a1 a2 d b e >>= fun f => (if f = true then ((if (0 : Int) ≤ a ∧ a < (b.size : Int) then (if ¬ (bt b a) = 126 then (if (0 : Int) ≤ a ∧ a < (b.size : Int) then (if c.length + 1 ≤ 140737488355328 then some (c ++ [bt b a]) else none) else none) else some c) else none) >>= fun g => bI a1 a2 d b e g (ax (a + 1))) else some (c, a)))
  partial_fixpoint
def bL (a1 : Int) (a2 : Int) (a : List ByteArray) (b : ByteArray) (c : List (ByteArray × Bool)) (d : Int) (e : Bool) : Option (ByteArray) :=
  (if e = true then (bQ a1 a2 a b c ([] : List Int) (ax (d - 1)) >>= fun (f, h) => some (qI f)) else (bI a1 a2 a b c ([] : List Int) d >>= fun (g, i) => some (qI g)))
def du (a1 : Int) (a2 : Int) (f : List ByteArray) (b : ByteArray) (e : List (ByteArray × Bool)) (a : Int) : Option (Bool) :=
  (bL a1 a2 f b e (ax (a - 1)) true >>= fun c => (bL a1 a2 f b e a false >>= fun d => ((if a < 2 then some true else (if (0 : Int) ≤ ax (a - 2) ∧ ax (a - 2) < (b.size : Int) then (gr (bt b (ax (a - 2))) >>= fun g => some (!g)) else none)) >>= fun h => ((if h = true then some true else some (decide ((c.size : Int) < a1))) >>= fun i => ((if i = true then some true else some (decide ((d.size : Int) < a2))) >>= fun j => (if j = true then some false else (if (0 : Int) ≤ 1 ∧ 1 ≤ (c.size : Int) then (if (0 : Int) ≤ 1 ∧ 1 ≤ (d.size : Int) then (if (sub c 0 1).size + (sub d 0 1).size ≤ 9223372036854775807 then some (!((oo e ((sub c 0 1) ++ (sub d 0 1))).getD false)) else none) else none) else none)))))))
def aT {σ : Type} (φ : σ → ah → Option (σ × Bool)) (d : Int) (a4 : Int) (e : List ByteArray) (a10 : ByteArray) (f : List (ByteArray × Bool)) (j : Bool) (a : Int) (b : σ) : Option (Sum σ σ) :=
  (if a < (a10.size : Int) then (((if j = true then some true else (if (0 : Int) ≤ ax (a - 1) ∧ ax (a - 1) < (a10.size : Int) then some (decide (¬ (bt a10 (ax (a - 1))) = 32)) else none)) >>= fun c => (if (0 : Int) ≤ ax (a - 1) ∧ ax (a - 1) < (a10.size : Int) then (if (bt a10 (ax (a - 1))) = 32 then ((if c = true then (if (0 : Int) ≤ a ∧ a < (a10.size : Int) then some (decide (¬ (bt a10 a) = 32)) else none) else some false) >>= fun k => ((if k = true then (if (0 : Int) ≤ ax (a - 1) ∧ ax (a - 1) < (a10.size : Int) then (φ b (⟨a, decide ((bt a10 (ax (a - 1))) = 126)⟩ : ah) >>= fun (l, m) => some (!m, l)) else none) else some (false, b)) >>= fun (n, g) => (if n = true then some (Sum.inl g) else some (Sum.inr (c, g))))) else (if (bt a10 (ax (a - 1))) = 45 then ((if 1 < a then (if (0 : Int) ≤ ax (a - 2) ∧ ax (a - 2) < (a10.size : Int) then (im (bt a10 (ax (a - 2))) >>= fun o => some o) else none) else some false) >>= fun p => ((if p = true then (if (0 : Int) ≤ a ∧ a < (a10.size : Int) then (im (bt a10 a) >>= fun q => some q) else none) else some false) >>= fun r => ((if r = true then (if (0 : Int) ≤ ax (a - 1) ∧ ax (a - 1) < (a10.size : Int) then (φ b (⟨a, decide ((bt a10 (ax (a - 1))) = 126)⟩ : ah) >>= fun (s, t) => some (!t, s)) else none) else some (false, b)) >>= fun (u, h) => (if u = true then some (Sum.inl h) else some (Sum.inr (c, h)))))) else (if (bt a10 (ax (a - 1))) = 126 then (du d a4 e a10 f a >>= fun v => ((if v = true then (if (0 : Int) ≤ ax (a - 1) ∧ ax (a - 1) < (a10.size : Int) then (φ b (⟨a, decide ((bt a10 (ax (a - 1))) = 126)⟩ : ah) >>= fun (w, x) => some (!x, w)) else none) else some (false, b)) >>= fun (y, i) => (if y = true then some (Sum.inl i) else some (Sum.inr (c, i))))) else some (Sum.inr (c, b))))) else none)) >>= fun A => match A with | (Sum.inl B) => some (Sum.inl B) | (Sum.inr (C, D)) => aT φ d a4 e a10 f C (ax (a + 1)) D) else some (Sum.inr b))
  partial_fixpoint
def sg := @aT.partial_correctness
def cF {σ : Type} (φ : σ → ah → Option (σ × Bool)) (sy : σ) (a : Int) (a4 : Int) (b : List ByteArray) (a10 : ByteArray) (c : List (ByteArray × Bool)) : Option (σ) :=
  (aT φ a a4 b a10 c false 1 sy >>= fun d => match d with | (Sum.inl e) => some e | (Sum.inr f) => some f)
def cS (a : List ah) (b : ah) : Option (((List ah)) × Option Nat) :=
  (if a.length + 1 ≤ 8796093022208 then some (a ++ [b], none) else none)
def jW (a1 : ak) (a6 : ByteArray) : Option ((List ah) × Int) :=
  (gO a1 a6 >>= fun (b, c, d, e, a, f) => (if (!f) = true then some (([] : List ah), 1) else (eQ b c d e a >>= fun (g, h, i, j) => (cF (j5 (fun (u : (List ah)) (x : ah) => cS u x)) (([] : List ah), none) g h i j a >>= fun (k, l) => match l with | none => some (k, 0) | some _ => none))))
def iX (a1 : ah) : Option (Bool) :=
  some a1.Hyphen
def eS (a1 : ai) (a10 : ByteArray) (a : Nat) : Option (Sum Nat Nat) :=
  (if a < a10.size then (fE a1 (uG (((Utf8.decode a10 a).1 : Int))) >>= fun (d, b) => ((if (!b) = true then some (decide (¬ ((Utf8.decode a10 a).1 : Int) = 126)) else some false) >>= fun c => (if c = true then some (Sum.inl (a + (Utf8.decode a10 a).2)) else eS a1 a10 (a + (Utf8.decode a10 a).2)))) else some (Sum.inr a))
  partial_fixpoint
def fx (a1 : ai) (a10 : ByteArray) : Option (Bool × Int) :=
  (aU a1 >>= fun a => ((if (!a) = true then some true else (gf a10 >>= fun b => some (!b))) >>= fun c => (if c = true then some (false, 1) else (eS a1 a10 0 >>= fun d => match d with | (Sum.inl e) => some (false, 0) | (Sum.inr f) => some (true, 0)))))
def kU (a1 : ByteArray) : Option (ByteArray) :=
  some a1
def bp {σ : Type} (φ : σ → aO → Option (σ × Bool)) (b : ByteArray) (d : Int) (a : Nat) (c : σ) : Option (Sum (Nat × σ) (Nat × σ)) :=
  (if a < b.size then (if ((Utf8.decode b a).1 : Int) = 126 then bp φ b d (a + (Utf8.decode b a).2) c else (φ c (⟨d, uG (((Utf8.decode b a).1 : Int))⟩ : aO) >>= fun (e, f) => (if (!f) = true then some (Sum.inl (a + (Utf8.decode b a).2, e)) else bp φ b (uG (((Utf8.decode b a).1 : Int))) (a + (Utf8.decode b a).2) e))) else some (Sum.inr (a, c)))
  partial_fixpoint
def ff {σ : Type} (φ : σ → aO → Option (σ × Bool)) (sy : σ) (a : ByteArray) : Option (σ) :=
  (bp φ a 0 0 sy >>= fun b => match b with | (Sum.inl (e, c)) => some c | (Sum.inr (f, d)) => some d)
def aD (a1 : List bX) (a6 : aO) (a : Int) (b : Int) : Option (Int) :=
  (if a < b then (if (0 : Int) ≤ ax (Int.fdiv (IntKind.wrap .u64 (ax (a + b))) (2 ^ 1)) ∧ ax (Int.fdiv (IntKind.wrap .u64 (ax (a + b))) (2 ^ 1)) < (a1.length : Int) then (gH (a1.getD (Int.toNat (ax (Int.fdiv (IntKind.wrap .u64 (ax (a + b))) (2 ^ 1)))) am) a6 >>= fun c => (if c < 0 then aD a1 a6 (ax ((ax (Int.fdiv (IntKind.wrap .u64 (ax (a + b))) (2 ^ 1))) + 1)) b else aD a1 a6 a (ax (Int.fdiv (IntKind.wrap .u64 (ax (a + b))) (2 ^ 1))))) else none) else some a)
  partial_fixpoint
def bh (a1 : List bX) (a6 : aO) : Option (Int × Bool) :=
  (aD a1 a6 0 (a1.length : Int) >>= fun a => ((if a < (a1.length : Int) then (if (0 : Int) ≤ a ∧ a < (a1.length : Int) then (gH (a1.getD (Int.toNat a) am) a6 >>= fun b => some (decide (b = 0))) else none) else some false) >>= fun c => some (a, c)))
def bU (a1 : List bX) (a6 : aO) : Option (bX × Bool) :=
  (bh a1 a6 >>= fun (a, b) => (if (!b) = true then some ((⟨0, 0, 0⟩ : bX), false) else (if (0 : Int) ≤ a ∧ a < (a1.length : Int) then some ((a1.getD (Int.toNat a) am), true) else none)))
def cV (a1 : ai) (b : Int) (a : aO) : Option ((Int) × Option Nat) :=
  (fE a1 a.right >>= fun (c, e) => (bU a1.Kerns a >>= fun (d, f) => some (ax (b + (ax (c.Advance + d.By))), none)))
def jn (a1 : ai) (a10 : ByteArray) : Option (Int × Int) :=
  (fx a1 a10 >>= fun (b, a) => (if ¬ a = 0 then some (0, a) else (if (!b) = true then some (0, 20) else (kU a10 >>= fun c => (ff (j5 (fun (u : Int) (x : aO) => cV a1 u x)) (0, none) c >>= fun (d, e) => match e with | none => some (d, 0) | some _ => none)))))
def df (a1 : ai) (a10 : ByteArray) (a : Int) : Option (Int × Int) :=
  (jn a1 a10 >>= fun (c, b) => ((if b = 1 then some true else some (decide (a < 50))) >>= fun d => ((if d = true then some true else some (decide (300 < a))) >>= fun e => (if e = true then some (0, 1) else (if ¬ b = 0 then some (0, b) else some (ax (Int.tdiv (ax ((ax (c * a)) + 99)) 100), 0))))))
def aV (a1 : List ah) (a : Int) : Option (Sum Int Unit) :=
  (if a < (a1.length : Int) then (if (0 : Int) ≤ a ∧ a < (a1.length : Int) then (iX (a1.getD (Int.toNat a) aG) >>= fun b => (if b = true then some (Sum.inl a) else aV a1 (ax (a + 1)))) else none) else some (Sum.inr ()))
  partial_fixpoint
def cq (a1 : List ah) : Option (Int) :=
  (aV a1 0 >>= fun a => match a with | (Sum.inl b) => some b | (Sum.inr _) => some (-1))
def bC (a1 : List ah) : Option (Bool) :=
  (cq a1 >>= fun a => some (decide (0 ≤ a)))
def cO (a1 : ai) (a10 : ak) (a : ByteArray) (c : Int) : Option ((Sum (ByteArray × (List ah)) (Sum (ByteArray × (List ah)) (ByteArray × (List ah) × ai × Int)))) :=
  (jW a10 a >>= fun (b, d) => ((if ¬ d = 0 then some true else (aU a1 >>= fun e => some (!e))) >>= fun f => ((if f = true then some true else (aY c 50 300 >>= fun g => some (!g))) >>= fun h => (if h = true then some (Sum.inl ((⟨#[]⟩ : ByteArray), ([] : List ah))) else (bC b >>= fun i => (if i = true then (fx a1 a >>= fun (j, m) => (if (!j) = true then some (Sum.inr (Sum.inl ((⟨#[]⟩ : ByteArray), ([] : List ah)))) else (fx a1 (⟨#[45]⟩ : ByteArray) >>= fun (k, n) => (if (!k) = true then some (Sum.inr (Sum.inl ((⟨#[]⟩ : ByteArray), ([] : List ah)))) else (if b.length + 1 ≤ 8796093022208 then some (Sum.inr (Sum.inr (a, b ++ [(⟨(a.size : Int), false⟩ : ah)], a1, c))) else none))))) else (fx a1 a >>= fun (l, o) => (if (!l) = true then some (Sum.inr (Sum.inl ((⟨#[]⟩ : ByteArray), ([] : List ah)))) else (if b.length + 1 ≤ 8796093022208 then some (Sum.inr (Sum.inr (a, b ++ [(⟨(a.size : Int), false⟩ : ah)], a1, c))) else none)))))))))
def cY (a1 : ByteArray) (c : Int) (d : Bool) (a : Nat) : Option (Int × Nat) :=
  (if a < a1.size then (dP (uG (((Utf8.decode a1 a).1 : Int))) >>= fun b => (((if b = 6 then some (Sum.inl ()) else (if b = 4 then some (Sum.inr (Sum.inr (Sum.inr ()))) else (if b = 1 then some (Sum.inr (Sum.inr (Sum.inl ()))) else (if b = 2 then some (Sum.inr (Sum.inr (Sum.inl ()))) else (if b = 3 then some (Sum.inr (Sum.inr (Sum.inl ()))) else some (Sum.inr (Sum.inl ()))))))) >>= fun e => match e with | (Sum.inl _) => some (Sum.inr d) | (Sum.inr (Sum.inl _)) => some (Sum.inl ()) | (Sum.inr (Sum.inr (Sum.inl _))) => some (Sum.inl ()) | (Sum.inr (Sum.inr (Sum.inr _))) => some (Sum.inr false)) >>= fun f => match f with | (Sum.inl _) => (if (!d) = true then cY a1 (ax (c + 1)) true (a + (Utf8.decode a1 a).2) else cY a1 c true (a + (Utf8.decode a1 a).2)) | (Sum.inr g) => cY a1 c g (a + (Utf8.decode a1 a).2))) else some (c, a))
  partial_fixpoint
def gI (a1 : ByteArray) : Option (Int × Int) :=
  (gf a1 >>= fun a => (if (!a) = true then some (0, 1) else (cY a1 0 false 0 >>= fun (b, c) => some (b, 0))))
def dJ (a1 : List ah) : Option ((List ah)) :=
  some a1
def mW (s t : ByteArray) : Option ByteArray :=
  if s.size ≤ 9223372036854775807 then match t.data.toList with
    | [b] => if b.toNat < 128 then some ⟨(Lib.trimB s.data.toList b).toArray⟩ else none
    | _ => none
  else none
def strings_ReplaceAll (s t u : ByteArray) : Option ByteArray :=
  if s.size < 4294967281 ∧ 1 ≤ t.size ∧ u.size = 0 then some ⟨(Lib.replaceAll s.data.toList t.data.toList u.data.toList).toArray⟩ else none
def ix (a1 : ByteArray) (a2 : Int) (a : Int) (a4 : Bool) : Option (ByteArray) :=
  (if (0 : Int) ≤ a2 ∧ (a2 : Int) ≤ a ∧ a ≤ (a1.size : Int) then (strings_ReplaceAll (sub a1 a2 a) (⟨#[126]⟩ : ByteArray) (⟨#[]⟩ : ByteArray) >>= fun c => (mW c (⟨#[32]⟩ : ByteArray) >>= fun b => (if a4 = true then (if b.size + (⟨#[45]⟩ : ByteArray).size ≤ 9223372036854775807 then some (b ++ (⟨#[45]⟩ : ByteArray)) else none) else some b))) else none)
def bz (a1 : List Int) (a : Int) : Option (Sum Int Unit) :=
  (if a < (a1.length : Int) then (if (0 : Int) ≤ a ∧ a < (a1.length : Int) then (jU (a1.getD (Int.toNat a) (0 : Int)) >>= fun b => (if b = true then some (Sum.inl a) else bz a1 (ax (a + 1)))) else none) else some (Sum.inr ()))
  partial_fixpoint
def dq (a1 : List Int) : Option (Int) :=
  (bz a1 0 >>= fun a => match a with | (Sum.inl b) => some b | (Sum.inr _) => some (-1))
def cm (a1 : List Int) : Option (Bool) :=
  (dq a1 >>= fun a => some (decide (0 ≤ a)))
def eV (a1 : ByteArray) (a2 : List ah) (b : ai) (c : Int) (a : List Int) : Option (ByteArray × (List ah) × (List Int)) :=
  some (a1, a2, a)
def eH (a1 : ah) (a4 : Int) : Option (Bool) :=
  some (decide (a4 < a1.At))
def bd (a1 : List ah) (b : Int) (a : Int) : Option (Sum Int Unit) :=
  (if a < (a1.length : Int) then (if (0 : Int) ≤ a ∧ a < (a1.length : Int) then (eH (a1.getD (Int.toNat a) aG) b >>= fun c => (if c = true then some (Sum.inl a) else bd a1 b (ax (a + 1)))) else none) else some (Sum.inr ()))
  partial_fixpoint
def cr (a1 : List ah) (a : Int) : Option (Int) :=
  (bd a1 a 0 >>= fun b => match b with | (Sum.inl c) => some c | (Sum.inr _) => some (-1))
def aR {σ : Type} (φ : σ → (Int × ah) → Option (σ × Bool)) (b : List ah) (a : Int) (c : σ) : Option (Sum σ σ) :=
  (if 0 ≤ a then (if (0 : Int) ≤ a ∧ a < (b.length : Int) then (φ c (a, (b.getD (Int.toNat a) aG)) >>= fun (d, e) => (if (!e) = true then some (Sum.inl d) else aR φ b (ax (a - 1)) d)) else none) else some (Sum.inr c))
  partial_fixpoint
def cd {σ : Type} (φ : σ → (Int × ah) → Option (σ × Bool)) (sy : σ) (a : List ah) : Option (σ) :=
  (aR φ a (ax ((a.length : Int) - 1)) sy >>= fun b => match b with | (Sum.inl c) => some c | (Sum.inr d) => some d)
def fb (a1 : ByteArray) (a4 : ai) (a : Int) : Option (Int) :=
  (df a4 a1 a >>= fun (b, c) => some b)
def cJ (a1 : ByteArray) (a2 : List ah) (b : ai) (c : Int) (a : Int) (a22 : ah) : Option (az) :=
  (ix a1 a a22.At a22.Hyphen >>= fun d => (fb d b c >>= fun e => some (⟨a, a22.At, e, a22.Hyphen⟩ : az)))
def bM (a1 : ByteArray) (a2 : List ah) (b : ai) (c : Int) (d : Int) (a22 : Int) (e : Int) (f : Int) (g : Int) (h : Bool) (j : Int) (i : ah) : Option ((Int × Int × Int × Bool) × Option Nat) :=
  (cJ a1 a2 b c d i >>= fun a => (if a.Width ≤ a22 then some ((a.From, a.Until, a.Width, a.Hyphen), (some 0)) else some ((e, f, g, h), none)))
def b5 (a1 : ByteArray) (a2 : List ah) (c : ai) (d : Int) (b : Int) (a22 : Int) : Option (az) :=
  (cr a2 b >>= fun a => (if (0 : Int) ≤ a ∧ (a : Int) ≤ (a2.length : Int) then (dJ (fk a2 a (a2.length : Int)) >>= fun e => (cd (j5 (fun (u : Int × Int × Int × Bool) (x : Int × ah) => bM a1 a2 c d b a22 u.1 u.2.1 u.2.2.1 u.2.2.2 x.1 x.2)) ((0, 0, 0, false), none) e >>= fun ((f, g, h, i), j) => match j with | none => (if (0 : Int) ≤ 0 ∧ 0 < ((fk a2 a (a2.length : Int)).length : Int) then (cJ a1 a2 c d b ((fk a2 a (a2.length : Int)).getD (Int.toNat 0) aG) >>= fun k => some k) else none) | some 0 => some (⟨f, g, h, i⟩ : az) | some _ => none)) else none))
def bo {σ : Type} (φ : σ → az → Option (σ × Bool)) (b : ByteArray) (a4 : List ah) (e : ai) (a22 : Int) (a : List Int) (c : Int) (d : Int) (f : σ) : Option (σ) :=
  (if (0 : Int) ≤ c ∧ (c : Int) ≤ (b.size : Int) then (gI (sub b c (b.size : Int)) >>= fun (i, k) => (if i = 0 then some f else (if (0 : Int) ≤ min d (ax ((a.length : Int) - 1)) ∧ min d (ax ((a.length : Int) - 1)) < (a.length : Int) then (b5 b a4 e a22 c (a.getD (Int.toNat (min d (ax ((a.length : Int) - 1)))) (0 : Int)) >>= fun g => (φ f g >>= fun (h, j) => (if (!j) = true then some h else bo φ b a4 e a22 a g.Until (ax (d + 1)) h))) else none))) else none)
  partial_fixpoint
def sf := @bo.partial_correctness
def db {σ : Type} (φ : σ → az → Option (σ × Bool)) (sy : σ) (a : ByteArray) (a4 : List ah) (b : ai) (a22 : Int) (c : List Int) : Option (σ) :=
  (bo φ a a4 b a22 c 0 0 sy >>= fun d => some d)
def aP (a : List az) (b : az) : Option (((List az)) × Option Nat) :=
  (if a.length + 1 ≤ 4398046511104 then some (a ++ [b], none) else none)
def cx (a : ByteArray) (a4 : List ah) (b : ai) (a22 : Int) (c : List Int) : Option ((List az)) :=
  (db (j5 (fun (u : (List az)) (x : az) => aP u x)) (([] : List az), none) a a4 b a22 c >>= fun (d, e) => match e with | none => some d | some _ => none)
def cP (a : ByteArray) (a4 : List ah) (b : ai) (a22 : Int) (c : List Int) : Option ((List az)) :=
  (cx a a4 b a22 c >>= fun d => some d)
def fL (a1 : ai) (a10 : ak) (c : ByteArray) (d : Int) (a17 : List Int) : Option ((List az) × Int) :=
  ((if (a17.length : Int) = 0 then some true else (cm a17 >>= fun e => some e)) >>= fun f => (if f = true then some (([] : List az), 1) else (cO a1 a10 c d >>= fun g => match g with | (Sum.inl (n, o)) => some (([] : List az), 1) | (Sum.inr (Sum.inl (p, q))) => some (([] : List az), 20) | (Sum.inr (Sum.inr (h, i, a, b))) => (eV h i a b a17 >>= fun (j, k, l) => (cP j k a b l >>= fun m => some (m, 0))))))
def cT (a1 : Int) (a2 : Int) : Option (Bool) :=
  ((if 0 ≤ a1 then some (decide (a1 ≤ a2)) else some false) >>= fun a => some a)
def j8 (a1 : ab) : Option (Bool) :=
  ((if ¬ a1.Side = 1 then some (decide (¬ a1.Side = 2)) else some false) >>= fun a => ((if a = true then some true else (cT a1.X 1000000 >>= fun b => some (!b))) >>= fun c => ((if c = true then some true else (cT a1.W 1000000 >>= fun d => some (!d))) >>= fun e => ((if e = true then some true else (cT a1.H 1000000 >>= fun f => some (!f))) >>= fun g => ((if g = true then some true else (cT a1.Y 1000000000 >>= fun h => some (!h))) >>= fun i => some i)))))
def aW (a1 : List ab) (a : Int) : Option (Sum Int Unit) :=
  (if a < (a1.length : Int) then (if (0 : Int) ≤ a ∧ a < (a1.length : Int) then (j8 (a1.getD (Int.toNat a) ag) >>= fun b => (if b = true then some (Sum.inl a) else aW a1 (ax (a + 1)))) else none) else some (Sum.inr ()))
  partial_fixpoint
def ct (a1 : List ab) : Option (Int) :=
  (aW a1 0 >>= fun a => match a with | (Sum.inl b) => some b | (Sum.inr _) => some (-1))
def bZ (a1 : List ab) : Option (Bool) :=
  (ct a1 >>= fun a => some (decide (0 ≤ a)))
def iC (a1 : List ab) (a6 : Int) : Option (Bool) :=
  (cT a6 1000000 >>= fun a => ((if a = true then some (decide ((a1.length : Int) ≤ 200)) else some false) >>= fun b => ((if b = true then (bZ a1 >>= fun c => some (!c)) else some false) >>= fun d => some d)))
def eB (a1 : ai) (a10 : ak) (a : ByteArray) (b : Int) (a17 : Int) (c : Int) : Option (az × Int) :=
  (aY b 0 (ax ((a.size : Int) - 1)) >>= fun d => ((if (!d) = true then some true else (aY c 0 1000000000 >>= fun e => some (!e))) >>= fun f => (if f = true then some ((⟨0, 0, 0, false⟩ : az), 1) else (cO a1 a10 a a17 >>= fun g => match g with | (Sum.inl (m, n)) => some ((⟨0, 0, 0, false⟩ : az), 1) | (Sum.inr (Sum.inl (o, p))) => some ((⟨0, 0, 0, false⟩ : az), 20) | (Sum.inr (Sum.inr (h, i, j, k))) => (b5 h i j k b c >>= fun l => some (l, 0))))))
def dQ (a1 : aX) (a : Int) : Option (Int) :=
  (gf a1.s >>= fun c => ((if (!c) = true then some true else (iC a1.l a1.width >>= fun d => some (!d))) >>= fun e => ((if e = true then some true else some (decide (a1.line < 0))) >>= fun g => ((if g = true then some true else some (decide (1000000 < a1.line))) >>= fun h => ((if h = true then some true else some (decide (a < 0))) >>= fun i => ((if i = true then some true else some (decide (1000000000 < a))) >>= fun j => (if j = true then some 1 else ((if a1.align < 0 then some true else some (decide (2 < a1.align))) >>= fun k => ((if k = true then some true else some (decide (a1.dir < 0))) >>= fun m => ((if m = true then some true else some (decide (1 < a1.dir))) >>= fun n => (if n = true then some 1 else (if a1.s = (⟨#[]⟩ : ByteArray) then (fL a1.f a1.b (⟨#[]⟩ : ByteArray) a1.scale ([a1.width] : List Int) >>= fun (q, o) => some o) else (eB a1.f a1.b a1.s 0 a1.scale a1.width >>= fun (r, p) => some p)))))))))))))
def gh (a1 : aX) (a : Int) : Option (aX × Int) :=
  some (a1, a)
def gL (a1 : aX) (a : Int) : Option (Int × aX) :=
  some (a, a1)
def eJ (a1 : ab) (a4 : Int) (a : aX) : Option (Bool) :=
  ((if 0 < a1.H then some (decide (a1.Y < (ax (a4 + (max a.line 1))))) else some false) >>= fun b => ((if b = true then some (decide (a4 < (ax (a1.Y + a1.H)))) else some false) >>= fun c => some c))
def cU (a1 : List Int) (b : Int) (a : Int) : Option (Int) :=
  (if a < (a1.length : Int) then (if (0 : Int) ≤ a ∧ a < (a1.length : Int) then cU a1 (min b (a1.getD (Int.toNat a) (0 : Int))) (ax (a + 1)) else none) else some b)
  partial_fixpoint
def gF (a1 : List Int) : Option (Int) :=
  (if (a1.length : Int) < 1 then none else (if (0 : Int) ≤ 0 ∧ 0 < (a1.length : Int) then (cU a1 (a1.getD (Int.toNat 0) (0 : Int)) 1 >>= fun a => some a) else none))
def bi (b : aX) (d : Int) (e : aX) (c : List Int) (a : Int) : Option ((List Int)) :=
  (if a < (b.l.length : Int) then ((if (0 : Int) ≤ a ∧ a < (b.l.length : Int) then (eJ (b.l.getD (Int.toNat a) ag) d e >>= fun f => (if f = true then (if c.length + 1 ≤ 17592186044416 then some (c ++ [ax (((b.l.getD (Int.toNat a) ag).Y) + ((b.l.getD (Int.toNat a) ag).H))]) else none) else some c)) else none) >>= fun g => bi b d e g (ax (a + 1))) else some c)
  partial_fixpoint
def b8 {σ : Type} (φ : σ → (Int × Bool) → Option (σ × Bool)) (a : aX) (b : Int) (e : σ) : Option (Int × σ) :=
  (gL a b >>= fun (f, g) => (bi a f g ([] : List Int) 0 >>= fun c => (φ e (b, decide (0 < (c.length : Int))) >>= fun (d, h) => ((if (!h) = true then some true else some (decide ((c.length : Int) = 0))) >>= fun i => (if i = true then some (b, d) else (gF c >>= fun j => b8 φ a j d))))))
  partial_fixpoint
def dc {σ : Type} (φ : σ → (Int × Bool) → Option (σ × Bool)) (sy : σ) (a : aX) (a22 : Int) : Option (Int × σ) :=
  (b8 φ a a22 sy >>= fun (b, c) => some (b, c))
def iq (a1 : gt) : Option (Int) :=
  some (ax (a1.Float.Y + a1.Float.H))
def ez (a1 : gt) (a2 : Int) (a : Int) : Option (Bool) :=
  ((if 0 < a1.Float.H then some (decide (a1.Float.Y < (ax (a2 + (max a 1))))) else some false) >>= fun b => ((if b = true then (iq a1 >>= fun c => some (decide (a2 < c))) else some false) >>= fun d => some d))
def ee (a1 : List ab) (d : Int) (e : Int) (f : Bool) (a : Int) (b : Int) (c : Int) : Option (Bool × Int × Int) :=
  (if a < (a1.length : Int) then ((if (0 : Int) ≤ a ∧ a < (a1.length : Int) then (ez (⟨(a1.getD (Int.toNat a) ag)⟩ : gt) d e >>= fun g => (if (!g) = true then some (f, b, c) else (if ((a1.getD (Int.toNat a) ag).Side) = 1 then some (true, max b (ax (((a1.getD (Int.toNat a) ag).X) + ((a1.getD (Int.toNat a) ag).W))), c) else some (true, b, min c ((a1.getD (Int.toNat a) ag).X))))) else none) >>= fun (h, i, j) => ee a1 d e h (ax (a + 1)) i j) else some (f, b, c))
  partial_fixpoint
def la (a1 : List ab) (a6 : Int) (a : Int) (b : Int) : Option (f8 × Bool) :=
  (ee a1 a b false 0 0 a6 >>= fun (c, qs, d) => some ((⟨qs, max qs d⟩ : f8), c))
def jY (a1 : List ab) (a6 : Int) (a : Int) (b : Int) : Option (f8 × Int) :=
  (iC a1 a6 >>= fun c => ((if (!c) = true then some true else (cT a 1000000000 >>= fun d => some (!d))) >>= fun e => ((if e = true then some true else (cT b 1000000 >>= fun f => some (!f))) >>= fun g => (if g = true then some ((⟨0, 0⟩ : f8), 1) else (la a1 a6 a b >>= fun (h, i) => some (h, 0))))))
def jO (a1 : ByteArray) (a2 : Int) : Option (Bool) :=
  (gf a1 >>= fun a => ((if a = true then ((if a2 = 0 then some true else some (decide (a2 = 1))) >>= fun b => some b) else some false) >>= fun c => some c))
def fZ (a1 : List Int) : Option ((List Int)) :=
  some a1
def f6 (a1 : Int) : Option (Bool) :=
  (dP a1 >>= fun a => some (decide (3 < a)))
def bu (b : List Int) (a : Int) : Option (Int) :=
  ((if a < (b.length : Int) then (if (0 : Int) ≤ a ∧ a < (b.length : Int) then (f6 (b.getD (Int.toNat a) (0 : Int)) >>= fun c => some c) else none) else some false) >>= fun d => (if d = true then bu b (ax (a + 1)) else some a))
  partial_fixpoint
def bg {σ : Type} (φ : σ → (Int × Int) → Option (σ × Bool)) (b : List Int) (a : Int) (c : σ) : Option (Sum σ σ) :=
  (if a < (b.length : Int) then (bu b a >>= fun d => ((if a < d then (φ c (a, d) >>= fun (f, g) => some (!g, f)) else some (false, c)) >>= fun (h, e) => (if h = true then some (Sum.inl e) else bg φ b (ax ((max a d) + 1)) e))) else some (Sum.inr c))
  partial_fixpoint
def dO {σ : Type} (φ : σ → (Int × Int) → Option (σ × Bool)) (sy : σ) (a : List Int) : Option (σ) :=
  (bg φ a 0 sy >>= fun b => match b with | (Sum.inl c) => some c | (Sum.inr d) => some d)
def bH (a1 : Int) (a4 : List Int) (a17 : Int) : Option (Int) :=
  ((if a1 < 0 then some true else some (decide ((a4.length : Int) ≤ a1))) >>= fun a => (if a = true then some a17 else (if (0 : Int) ≤ a1 ∧ a1 < (a4.length : Int) then some (a4.getD (Int.toNat a1) (0 : Int)) else none)))
def ce (a1 : List Int) (b : Int) (c : List Int) (a : Int) : Option ((List Int)) :=
  (if a < (a1.length : Int) then (if (0 : Int) ≤ a ∧ a < (a1.length : Int) then ce a1 b (List.set c (Int.toNat a) b) (ax (a + 1)) else none) else some c)
  partial_fixpoint
def fN (a1 : List Int) (a : Int) : Option ((List Int)) :=
  (ce a1 a a1 0 >>= fun b => some b)
def bG (a1 : ByteArray) (b : List Int) (c : Int) (a : Int) : Option ((List Int)) :=
  (if a < ((List.replicate (Int.toNat (a1.size : Int)) (0 : Int)).length : Int) then ((if (0 : Int) ≤ a ∧ a < (a1.size : Int) then (dP (bt a1 a) >>= fun d => (if d = 1 then (if (0 : Int) ≤ a ∧ a < ((List.replicate (Int.toNat (a1.size : Int)) (0 : Int)).length : Int) then some (List.set b (Int.toNat a) 0, 0) else none) else (if d = 2 then (if (0 : Int) ≤ a ∧ a < ((List.replicate (Int.toNat (a1.size : Int)) (0 : Int)).length : Int) then some (List.set b (Int.toNat a) 1, 1) else none) else (if (0 : Int) ≤ a ∧ a < ((List.replicate (Int.toNat (a1.size : Int)) (0 : Int)).length : Int) then some (List.set b (Int.toNat a) c, c) else none)))) else none) >>= fun (e, f) => bG a1 e f (ax (a + 1))) else some b)
  partial_fixpoint
def bc (a1 : ByteArray) (a2 : Int) (c : List Int) (a : Int) (b : Int) : Option (((List Int)) × Option Nat) :=
  (bH (ax (a - 1)) c a2 >>= fun d => (bH b c a2 >>= fun e => (if d = e then (if (0 : Int) ≤ a ∧ (a : Int) ≤ b ∧ b ≤ ((List.replicate (Int.toNat (a1.size : Int)) (0 : Int)).length : Int) then (fN (fk c a b) d >>= fun f => some (List.take (Int.toNat a) c ++ (f ++ List.drop (Int.toNat b) c), none)) else none) else (if (0 : Int) ≤ a ∧ (a : Int) ≤ b ∧ b ≤ ((List.replicate (Int.toNat (a1.size : Int)) (0 : Int)).length : Int) then (fN (fk c a b) a2 >>= fun g => some (List.take (Int.toNat a) c ++ (g ++ List.drop (Int.toNat b) c), none)) else none))))
def dE (a1 : ByteArray) (a2 : Int) : Option ((List Int)) :=
  (if (0 : Int) ≤ (a1.size : Int) ∧ (8 : Int) * (a1.size : Int) ≤ 281474976710656 ∧ (a1.size : Int) ≤ 9223372036854775807 then (bG a1 (List.replicate (Int.toNat (a1.size : Int)) (0 : Int)) a2 0 >>= fun a => (fZ (gb a1) >>= fun b => (dO (j5 (fun (u : (List Int)) (x : Int × Int) => bc a1 a2 u x.1 x.2)) (a, none) b >>= fun (c, d) => match d with | none => some c | some _ => none))) else none)
def b9 (a1 : ByteArray) (a2 : Int) (c : List Int) (b : List Int) (a : Int) : Option ((List Int)) :=
  (if a < (c.length : Int) then ((if (0 : Int) ≤ a ∧ a < (c.length : Int) then (if (0 : Int) ≤ a2 ∧ a2 < (2 : Int) then (if (0 : Int) ≤ (b.getD (Int.toNat a) (0 : Int)) ∧ (b.getD (Int.toNat a) (0 : Int)) < (2 : Int) then (if (0 : Int) ≤ a ∧ a < (c.length : Int) then ((if (b.getD (Int.toNat a) (0 : Int)) = 1 then (if (0 : Int) ≤ a ∧ a < (a1.size : Int) then (dP (bt a1 a) >>= fun d => some (decide (d = 3))) else none) else some false) >>= fun e => (if e = true then (if (0 : Int) ≤ a ∧ a < (c.length : Int) then some (List.set (List.set b (Int.toNat a) (([0, 1, 2, 1] : List Int).getD (0 + Int.toNat a2 * 2 + Int.toNat (b.getD (Int.toNat a) (0 : Int)) * 1) 0)) (Int.toNat a) 2) else none) else some (List.set b (Int.toNat a) (([0, 1, 2, 1] : List Int).getD (0 + Int.toNat a2 * 2 + Int.toNat (b.getD (Int.toNat a) (0 : Int)) * 1) 0)))) else none) else none) else none) else none) >>= fun f => b9 a1 a2 c f (ax (a + 1))) else some b)
  partial_fixpoint
def iw (a1 : ByteArray) (a2 : Int) : Option ((List Int) × Int) :=
  (jO a1 a2 >>= fun b => (if (!b) = true then some (([] : List Int), 1) else (dE a1 a2 >>= fun a => (b9 a1 a2 a a 0 >>= fun c => some (c, 0)))))
def de (a1 : List Int) : Option ((List Int) × (List Int)) :=
  (if ([] : List Int).length + a1.length ≤ 17592186044416 then some (([] : List Int) ++ a1, a1) else none)
def gw (a1 : List Int) (a : List Int) (b : Int) : Option ((List Int)) :=
  some a1
def iM (a1 : Int) (a4 : List Int) (a : Int) : Option (Bool) :=
  (if (0 : Int) ≤ a1 ∧ a1 < (a4.length : Int) then some (decide (a ≤ (a4.getD (Int.toNat a1) (0 : Int)))) else none)
def bD (b : List Int) (c : List Int) (d : Int) (a : Int) : Option (Int) :=
  ((if a < (b.length : Int) then (if (0 : Int) ≤ a ∧ a < (b.length : Int) then (iM (b.getD (Int.toNat a) (0 : Int)) c d >>= fun e => some e) else none) else some false) >>= fun f => (if f = true then bD b c d (ax (a + 1)) else some a))
  partial_fixpoint
def aZ {σ : Type} (φ : σ → (Int × Int) → Option (σ × Bool)) (b : List Int) (e : List Int) (f : Int) (a : Int) (c : σ) : Option (Sum σ σ) :=
  (if a < (b.length : Int) then (bD b e f a >>= fun d => ((if a < d then (φ c (a, d) >>= fun (h, i) => some (!i, h)) else some (false, c)) >>= fun (j, g) => (if j = true then some (Sum.inl g) else aZ φ b e f (ax ((max a d) + 1)) g))) else some (Sum.inr c))
  partial_fixpoint
def et {σ : Type} (φ : σ → (Int × Int) → Option (σ × Bool)) (sy : σ) (a : List Int) (b : List Int) (c : Int) : Option (σ) :=
  (aZ φ a b c 0 sy >>= fun d => match d with | (Sum.inl e) => some e | (Sum.inr f) => some f)
def bf (a1 : List Int) (c : List Int) (a : Int) (b : Int) : Option ((List Int)) :=
  (if a < b then (if (0 : Int) ≤ b ∧ b < (a1.length : Int) then (if (0 : Int) ≤ a ∧ a < (a1.length : Int) then (if (0 : Int) ≤ a ∧ a < (a1.length : Int) then (if (0 : Int) ≤ b ∧ b < (a1.length : Int) then bf a1 (List.set (List.set c (Int.toNat a) (c.getD (Int.toNat b) (0 : Int))) (Int.toNat b) (c.getD (Int.toNat a) (0 : Int))) (ax (a + 1)) (ax (b - 1)) else none) else none) else none) else none) else some c)
  partial_fixpoint
def cn (a1 : List Int) : Option ((List Int)) :=
  (bf a1 a1 0 (ax ((a1.length : Int) - 1)) >>= fun a => some a)
def bE (a1 : List Int) (c : List Int) (a : Int) (b : Int) : Option (((List Int)) × Option Nat) :=
  (if (0 : Int) ≤ a ∧ (a : Int) ≤ b ∧ b ≤ (a1.length : Int) then (cn (fk c a b) >>= fun d => some (List.take (Int.toNat a) c ++ (d ++ List.drop (Int.toNat b) c), none)) else none)
def bn (a1 : List Int) (b : List Int) (a17 : List Int) (c : List Int) (a : Int) : Option ((List Int)) :=
  (if a < (a17.length : Int) then (if (0 : Int) ≤ a ∧ a < (a17.length : Int) then (de c >>= fun (d, e) => (gw d b (a17.getD (Int.toNat a) (0 : Int)) >>= fun f => (et (j5 (fun (u : (List Int)) (x : Int × Int) => bE a1 u x.1 x.2)) (e, none) f b (a17.getD (Int.toNat a) (0 : Int)) >>= fun (g, h) => match h with | none => bn a1 b a17 g (ax (a + 1)) | some _ => none))) else none) else some c)
  partial_fixpoint
def jd (a1 : List Int) (a : List Int) (a17 : List Int) : Option ((List Int)) :=
  (bn a1 a a17 a1 0 >>= fun b => some b)
def dT (a1 : ByteArray) (b : List Int) (a : Int) : Option ((List Int)) :=
  (if a < ((List.replicate (Int.toNat (a1.size : Int)) (0 : Int)).length : Int) then (if (0 : Int) ≤ a ∧ a < ((List.replicate (Int.toNat (a1.size : Int)) (0 : Int)).length : Int) then dT a1 (List.set b (Int.toNat a) a) (ax (a + 1)) else none) else some b)
  partial_fixpoint
def i1 (a1 : ByteArray) (a2 : Int) : Option ((List Int) × Int) :=
  (iw a1 a2 >>= fun (b, a) => (if ¬ a = 0 then some (([] : List Int), a) else (if (0 : Int) ≤ (a1.size : Int) ∧ (8 : Int) * (a1.size : Int) ≤ 281474976710656 ∧ (a1.size : Int) ≤ 9223372036854775807 then (dT a1 (List.replicate (Int.toNat (a1.size : Int)) (0 : Int)) 0 >>= fun c => (jd c b ([2, 1] : List Int) >>= fun d => some (d, 0))) else none)))
def dD (a1 : ByteArray) (b : List Int) (c : List Int) (a : Int) : Option ((List Int)) :=
  (if a < (b.length : Int) then (if (0 : Int) ≤ a ∧ a < (b.length : Int) then (if (0 : Int) ≤ b.getD (Int.toNat a) (0 : Int) ∧ b.getD (Int.toNat a) (0 : Int) < (a1.size : Int) then (if (0 : Int) ≤ a ∧ a < ((List.replicate (Int.toNat (b.length : Int)) (0 : Int)).length : Int) then dD a1 b (List.set c (Int.toNat a) (bt a1 (b.getD (Int.toNat a) (0 : Int)))) (ax (a + 1)) else none) else none) else none) else some c)
  partial_fixpoint
def iy (a1 : ByteArray) (a2 : Int) : Option (ByteArray × Int) :=
  (i1 a1 a2 >>= fun (a, b) => (if (0 : Int) ≤ (a.length : Int) ∧ (1 : Int) * (a.length : Int) ≤ 281474976710656 ∧ (a.length : Int) ≤ 9223372036854775807 then (dD a1 a (List.replicate (Int.toNat (a.length : Int)) (0 : Int)) 0 >>= fun c => some (qI c, b)) else none))
def dH (a1 : ai) (a10 : ByteArray) (a : az) (g : Int) (b : Int) (c : Int) (d : Int) : Option (ByteArray × Int × Int) :=
  (aY g 50 300 >>= fun j => ((if j = true then (aY b 0 1000000000 >>= fun k => some k) else some false) >>= fun l => ((if l = true then (aY c 0 2 >>= fun m => some m) else some false) >>= fun n => ((if n = true then (aY d 0 1 >>= fun o => some o) else some false) >>= fun p => ((if (!p) = true then some true else (aU a1 >>= fun q => some (!q))) >>= fun r => ((if r = true then some true else (gf a10 >>= fun s => some (!s))) >>= fun t => ((if t = true then some true else some (decide (a.From < 0))) >>= fun u => ((if u = true then some true else some (decide (a.Until ≤ a.From))) >>= fun v => ((if v = true then some true else some (decide ((a10.size : Int) < a.Until))) >>= fun w => (if w = true then some ((⟨#[]⟩ : ByteArray), 0, 1) else (ix a10 a.From a.Until a.Hyphen >>= fun h => (df a1 h g >>= fun (e, i) => (if ¬ i = 0 then some ((⟨#[]⟩ : ByteArray), 0, i) else (if ¬ e = a.Width then some ((⟨#[]⟩ : ByteArray), 0, 1) else (iy h d >>= fun (f, x) => (if c = d then some (f, 0, 0) else (if c = 2 then some (f, Int.fdiv (ax (b - e)) (2 ^ 1), 0) else some (f, ax (b - e), 0))))))))))))))))))
def bq (a1 : aX) (e : Int) (g : Bool) (h : Int) (i : ByteArray) (j : Int) (k : Int) (m : Int) (n : Int) (d : Int) (o : Bool) : Option ((Bool × Int × ByteArray × Int × Int × Int × Int) × Option Nat) :=
  (jY a1.l a1.width d a1.line >>= fun (a, p) => (if ¬ p = 0 then some ((false, 0, (⟨#[]⟩ : ByteArray), 0, 0, 0, 0), (some 0)) else (eB a1.f a1.b a1.s e a1.scale (ax (a.Hi - a.Lo)) >>= fun (c, u) => ((if (ax (a.Hi - a.Lo)) < c.Width then some o else some false) >>= fun q => (if q = true then some ((g, h, i, j, k, m, n), none) else (dH a1.f a1.s c a1.scale (ax (a.Hi - a.Lo)) a1.align a1.dir >>= fun (r, t, v) => some ((true, c.Until, r, ax (a.Lo + t), d, c.Width, a1.line), (some 0))))))))
def ga (a1 : aX) (a : Int) (b : Int) : Option (an × Int × Bool) :=
  (gh a1 b >>= fun (c, d) => (dc (j5 (fun (u : Bool × Int × ByteArray × Int × Int × Int × Int) (x : Int × Bool) => bq a1 a u.1 u.2.1 u.2.2.1 u.2.2.2.1 u.2.2.2.2.1 u.2.2.2.2.2.1 u.2.2.2.2.2.2 x.1 x.2)) ((false, 0, (⟨#[]⟩ : ByteArray), 0, 0, 0, 0), none) c d >>= fun (m, (e, f, g, h, i, j, k), l) => match l with | none => some ((⟨(⟨#[]⟩ : ByteArray), 0, 0, 0, 0⟩ : an), 0, false) | some 0 => some ((⟨g, h, i, j, k⟩ : an), f, e) | some _ => none))
def fh (a1 : ByteArray) (c : Int) (a4 : aX) (d : Int) (b : List an) (a : Int) : Option (Sum Unit (Int × (List an))) :=
  (if (0 : Int) ≤ a ∧ (a : Int) ≤ (a1.size : Int) then (gI (sub a1 a (a1.size : Int)) >>= fun (f, i) => (if f = 0 then some (Sum.inr (d, b)) else (ga a4 a d >>= fun (e, g, h) => (if (!h) = true then some (Sum.inl ()) else (if b.length + 1 ≤ 2932031007402 then fh a1 c a4 (ax (e.Y + c)) (b ++ [e]) g else none))))) else none)
  partial_fixpoint
def k5 (a1 : ByteArray) (a2 : Int) (b : Int) (a4 : aX) : Option ((List an) × Int × Bool) :=
  (fh a1 b a4 a2 ([] : List an) 0 >>= fun c => match c with | (Sum.inl _) => some (([] : List an), 0, false) | (Sum.inr (a, d)) => some (d, a, decide (a ≤ 1000000000)))
def fC (a1 : ai) (a10 : ak) (a : ByteArray) (b : Int) (a17 : Int) (c : Int) (d : Int) (e : Int) (f : Int) (a22 : List ab) : Option ((List an) × Int × Int) :=
  (dQ (⟨a1, a10, a, b, a17, c, d, e, a22⟩ : aX) f >>= fun g => (if ¬ g = 0 then some (([] : List an), 0, g) else (k5 a f a17 (⟨a1, a10, a, b, a17, c, d, e, a22⟩ : aX) >>= fun (h, i, j) => (if (!j) = true then some (([] : List an), 0, 3) else some (h, i, 0)))))
def gJ (a : Int) (b : List aA) : Option ((List aA)) :=
  (if a ≤ 104 then (if b.length + 1 ≤ 8796093022208 then gJ (uG (a + 1)) (b ++ [(⟨a, 10⟩ : aA)]) else none) else some b)
  partial_fixpoint
def eR : Option (ai) :=
  (gJ 97 ([(⟨32, 10⟩ : aA), (⟨45, 10⟩ : aA)] : List aA) >>= fun a => some (⟨a, ([] : List bX)⟩ : ai))
def ig : Option (Bool) :=
  (eR >>= fun a => (fC a (⟨1, 1, ([] : List ByteArray)⟩ : ak) (⟨#[97, 98, 32, 99, 100, 32, 101, 102]⟩ : ByteArray) 100 12 0 0 50 0 ([(⟨1, 0, 0, 30, 20⟩ : ab)] : List ab) >>= fun (b, c, d) => (eR >>= fun e => (fC e (⟨1, 1, ([] : List ByteArray)⟩ : ak) (⟨#[97, 98, 32, 99, 100, 32, 101, 102]⟩ : ByteArray) 100 12 0 0 50 0 ([(⟨1, 0, 0, 45, 20⟩ : ab)] : List ab) >>= fun (f, g, h) => (eR >>= fun i => (fC i (⟨1, 1, ([] : List ByteArray)⟩ : ak) (⟨#[32]⟩ : ByteArray) 100 12 0 0 50 7 ([(⟨1, 0, 0, 45, 20⟩ : ab)] : List ab) >>= fun (j, k, l) => (eR >>= fun m => (fC m (⟨1, 1, ([] : List ByteArray)⟩ : ak) (⟨#[120]⟩ : ByteArray) 100 12 0 0 50 0 ([] : List ab) >>= fun (D, E, n) => (eR >>= fun o => (fC o (⟨1, 1, ([] : List ByteArray)⟩ : ak) (⟨#[97]⟩ : ByteArray) 100 12 3 0 50 0 ([] : List ab) >>= fun (F, G, p) => ((if d = 0 then some (decide (h = 0)) else some false) >>= fun q => ((if q = true then some (decide (l = 0)) else some false) >>= fun r => ((if r = true then some (decide (n = 20)) else some false) >>= fun s => ((if s = true then some (decide (p = 1)) else some false) >>= fun t => ((if t = true then (ec b ([(⟨(⟨#[97, 98]⟩ : ByteArray), 30, 0, 20, 12⟩ : an), (⟨(⟨#[99, 100]⟩ : ByteArray), 30, 12, 20, 12⟩ : an), (⟨(⟨#[101, 102]⟩ : ByteArray), 0, 24, 20, 12⟩ : an)] : List an) >>= fun u => some u) else some false) >>= fun v => ((if v = true then some (decide (c = 36)) else some false) >>= fun w => ((if w = true then (ec f ([(⟨(⟨#[97, 98, 32, 99, 100]⟩ : ByteArray), 0, 20, 50, 12⟩ : an), (⟨(⟨#[101, 102]⟩ : ByteArray), 0, 32, 20, 12⟩ : an)] : List an) >>= fun x => some x) else some false) >>= fun y => ((if y = true then some (decide (g = 44)) else some false) >>= fun A => ((if A = true then some (decide ((j.length : Int) = 0)) else some false) >>= fun B => ((if B = true then some (decide (k = 7)) else some false) >>= fun C => some C))))))))))))))))))))
def ls (a1 : ai) : Option (Bool) :=
  ((if (a1.Glyphs.length : Int) ≤ 100 then some (decide ((a1.Kerns.length : Int) ≤ 210)) else some false) >>= fun a => some a)
def j1 (a1 : ai) (a10 : ByteArray) (a : List ab) : Option (Bool) :=
  (ls a1 >>= fun b => ((if b = true then some (decide ((a10.size : Int) ≤ 80)) else some false) >>= fun c => ((if c = true then some (decide ((a.length : Int) ≤ 20)) else some false) >>= fun d => some d)))
def iW (a1 : ai) (a10 : ak) (b : ByteArray) (a : eX) (a17 : List ab) : Option ((List an) × Int × Int) :=
  (fC a1 a10 b a.Scale a.Line a.Align a.Dir a.Width a.Y a17 >>= fun (c, d, e) => some (c, d, e))
def da (a1 : Int) : Option (Int) :=
  ((if 97 ≤ a1 then some (decide (a1 ≤ 122)) else some false) >>= fun a => (if a = true then some 1 else ((if 65 ≤ a1 then some (decide (a1 ≤ 90)) else some false) >>= fun b => (if b = true then some 2 else ((if 48 ≤ a1 then some (decide (a1 ≤ 57)) else some false) >>= fun c => (if c = true then some 3 else (if a1 = 32 then some 4 else (if a1 = 126 then some 6 else ((if 32 < a1 then some (decide (a1 < 126)) else some false) >>= fun d => (if d = true then some 5 else some 0))))))))))
def eA (a1 : ByteArray) (a : Int) : Option (Sum Unit Unit) :=
  (if a < (a1.size : Int) then (if (0 : Int) ≤ a ∧ a < (a1.size : Int) then (da (bt a1 a) >>= fun b => (if b = 0 then some (Sum.inl ()) else eA a1 (ax (a + 1)))) else none) else some (Sum.inr ()))
  partial_fixpoint
def cz (a1 : ByteArray) : Option (Bool) :=
  (eA a1 0 >>= fun a => match a with | (Sum.inl _) => some false | (Sum.inr _) => some (decide ((a1.size : Int) ≤ 2000)))
def eK (a1 : ByteArray) (b : List Int) (a : Int) : Option ((List Int)) :=
  (if a < (a1.size : Int) then ((if (0 : Int) ≤ a ∧ a < (a1.size : Int) then (if ¬ (bt a1 a) = 126 then (if (0 : Int) ≤ a ∧ a < (a1.size : Int) then (if b.length + 1 ≤ 140737488355328 then some (b ++ [bt a1 a]) else none) else none) else some b) else none) >>= fun c => eK a1 c (ax (a + 1))) else some b)
  partial_fixpoint
def gB (a1 : ByteArray) : Option (ByteArray) :=
  (eK a1 ([] : List Int) 0 >>= fun a => some (qI a))
def eN (b : ByteArray) (c : Int) (a : Int) : Option (Int) :=
  (if a < (b.size : Int) then ((if (0 : Int) ≤ a ∧ a < (b.size : Int) then ((if ¬ (bt b a) = 32 then ((if a = 0 then some true else (if (0 : Int) ≤ ax (a - 1) ∧ ax (a - 1) < (b.size : Int) then some (decide ((bt b (ax (a - 1))) = 32)) else none)) >>= fun d => some d) else some false) >>= fun e => (if e = true then some (ax (c + 1)) else some c)) else none) >>= fun f => eN b f (ax (a + 1))) else some c)
  partial_fixpoint
def dG (a1 : ByteArray) : Option (Int × Int) :=
  (cz a1 >>= fun a => (if (!a) = true then some (0, 1) else (gB a1 >>= fun b => (eN b 0 0 >>= fun c => some (c, 0)))))
def eb (a1 : Int) : Option (Bool) :=
  ((if 0 ≤ a1 then some (decide (a1 ≤ 1000000)) else some false) >>= fun a => some a)
def il (a1 : Int) : Option (Bool) :=
  ((if 0 ≤ a1 then some (decide (a1 ≤ 1000000000)) else some false) >>= fun a => some a)
def dw (a1 : List ab) (a : Int) : Option (Sum Unit Unit) :=
  (if a < (a1.length : Int) then (if (0 : Int) ≤ a ∧ a < (a1.length : Int) then (eb ((a1.getD (Int.toNat a) ag).X) >>= fun b => (if (0 : Int) ≤ a ∧ a < (a1.length : Int) then (il ((a1.getD (Int.toNat a) ag).Y) >>= fun c => (if (0 : Int) ≤ a ∧ a < (a1.length : Int) then (eb ((a1.getD (Int.toNat a) ag).W) >>= fun d => (if (0 : Int) ≤ a ∧ a < (a1.length : Int) then (eb ((a1.getD (Int.toNat a) ag).H) >>= fun e => ((if (!b) = true then some true else some (!c)) >>= fun f => ((if f = true then some true else some (!d)) >>= fun g => ((if g = true then some true else some (!e)) >>= fun h => ((if h = true then some true else (if (0 : Int) ≤ a ∧ a < (a1.length : Int) then some (decide (((a1.getD (Int.toNat a) ag).Side) < 1)) else none)) >>= fun i => ((if i = true then some true else (if (0 : Int) ≤ a ∧ a < (a1.length : Int) then some (decide (2 < ((a1.getD (Int.toNat a) ag).Side))) else none)) >>= fun j => (if j = true then some (Sum.inl ()) else dw a1 (ax (a + 1))))))))) else none)) else none)) else none)) else none) else some (Sum.inr ()))
  partial_fixpoint
def gu (a1 : List ab) (a6 : Int) : Option (Bool) :=
  (eb a6 >>= fun a => ((if (!a) = true then some true else some (decide (200 < (a1.length : Int)))) >>= fun b => (if b = true then some false else (dw a1 0 >>= fun c => match c with | (Sum.inl _) => some false | (Sum.inr _) => some true))))
def bw (a1 : ai) (a10 : Int) (a : Int) : Option (Sum Int Unit) :=
  (if a < (a1.Glyphs.length : Int) then (if (0 : Int) ≤ a ∧ a < (a1.Glyphs.length : Int) then (if ((a1.Glyphs.getD (Int.toNat a) ao).Byte) = a10 then some (Sum.inl a) else bw a1 a10 (ax (a + 1))) else none) else some (Sum.inr ()))
  partial_fixpoint
def cQ (a1 : ai) (a10 : Int) : Option (Int) :=
  (bw a1 a10 0 >>= fun a => match a with | (Sum.inl b) => some b | (Sum.inr _) => some (-1))
def cD (a1 : ai) (a : Int) : Option (Sum Unit Unit) :=
  (if a < (a1.Glyphs.length : Int) then (if (0 : Int) ≤ a ∧ a < (a1.Glyphs.length : Int) then ((if ((a1.Glyphs.getD (Int.toNat a) ao).Byte) < 32 then some true else (if 125 < ((a1.Glyphs.getD (Int.toNat a) ao).Byte) then some true else (if ((a1.Glyphs.getD (Int.toNat a) ao).Advance) < 0 then some true else (if 1000 < ((a1.Glyphs.getD (Int.toNat a) ao).Advance) then some true else (if 0 < a then (if (0 : Int) ≤ ax (a - 1) ∧ ax (a - 1) < (a1.Glyphs.length : Int) then some (decide (((a1.Glyphs.getD (Int.toNat a) ao).Byte) ≤ ((a1.Glyphs.getD (Int.toNat (ax (a - 1))) ao).Byte))) else none) else some false))))) >>= fun b => (if b = true then some (Sum.inl ()) else cD a1 (ax (a + 1)))) else none) else some (Sum.inr ()))
  partial_fixpoint
def co (a1 : ai) (a : Int) : Option (Sum Unit Unit) :=
  (if a < (a1.Kerns.length : Int) then (if (0 : Int) ≤ a ∧ a < (a1.Kerns.length : Int) then (cQ a1 ((a1.Kerns.getD (Int.toNat a) am).Left) >>= fun b => (cQ a1 ((a1.Kerns.getD (Int.toNat a) am).Right) >>= fun c => ((if b < 0 then some true else (if c < 0 then some true else (if ((a1.Kerns.getD (Int.toNat a) am).By) < (-1000) then some true else (if 1000 < ((a1.Kerns.getD (Int.toNat a) am).By) then some true else (if (0 : Int) ≤ b ∧ b < (a1.Glyphs.length : Int) then some (decide ((ax (((a1.Glyphs.getD (Int.toNat b) ao).Advance) + ((a1.Kerns.getD (Int.toNat a) am).By))) < 0)) else none))))) >>= fun d => (if d = true then some (Sum.inl ()) else ((if 0 < a then (if (0 : Int) ≤ ax (a - 1) ∧ ax (a - 1) < (a1.Kerns.length : Int) then (if ((a1.Kerns.getD (Int.toNat a) am).Left) < ((a1.Kerns.getD (Int.toNat (ax (a - 1))) am).Left) then some true else (if (0 : Int) ≤ ax (a - 1) ∧ ax (a - 1) < (a1.Kerns.length : Int) then (if ((a1.Kerns.getD (Int.toNat a) am).Left) = ((a1.Kerns.getD (Int.toNat (ax (a - 1))) am).Left) then (if (0 : Int) ≤ ax (a - 1) ∧ ax (a - 1) < (a1.Kerns.length : Int) then some (decide (((a1.Kerns.getD (Int.toNat a) am).Right) ≤ ((a1.Kerns.getD (Int.toNat (ax (a - 1))) am).Right))) else none) else some false) else none)) else none) else some false) >>= fun e => (if e = true then some (Sum.inl ()) else co a1 (ax (a + 1)))))))) else none) else some (Sum.inr ()))
  partial_fixpoint
def aL (a1 : ai) : Option (Bool) :=
  ((if 94 < (a1.Glyphs.length : Int) then some true else some (decide (200 < (a1.Kerns.length : Int)))) >>= fun a => (if a = true then some false else (cD a1 0 >>= fun b => match b with | (Sum.inl _) => some false | (Sum.inr _) => (co a1 0 >>= fun c => match c with | (Sum.inl _) => some false | (Sum.inr _) => some true))))
def dR (a1 : ak) (b : Int) (a : Int) : Option (Sum Unit Unit) :=
  (if a < b then (if (0 : Int) ≤ a ∧ a < (a1.Keep.length : Int) then (if (a1.Keep.getD (Int.toNat a) (⟨#[]⟩ : ByteArray)) = (a1.Keep.getD (Int.toNat b) (⟨#[]⟩ : ByteArray)) then some (Sum.inl ()) else dR a1 b (ax (a + 1))) else none) else some (Sum.inr ()))
  partial_fixpoint
def eF (a1 : ak) (a : Int) : Option (Sum Unit Unit) :=
  (if a < (a1.Keep.length : Int) then (if (0 : Int) ≤ a ∧ a < (a1.Keep.length : Int) then ((if ¬ ((a1.Keep.getD (Int.toNat a) (⟨#[]⟩ : ByteArray)).size : Int) = 2 then some true else (if (0 : Int) ≤ 0 ∧ 0 < ((a1.Keep.getD (Int.toNat a) (⟨#[]⟩ : ByteArray)).size : Int) then some (decide ((bt (a1.Keep.getD (Int.toNat a) (⟨#[]⟩ : ByteArray)) 0) < 97)) else none)) >>= fun b => ((if b = true then some true else (if (0 : Int) ≤ 0 ∧ 0 < ((a1.Keep.getD (Int.toNat a) (⟨#[]⟩ : ByteArray)).size : Int) then some (decide (122 < (bt (a1.Keep.getD (Int.toNat a) (⟨#[]⟩ : ByteArray)) 0))) else none)) >>= fun c => ((if c = true then some true else (if (0 : Int) ≤ 1 ∧ 1 < ((a1.Keep.getD (Int.toNat a) (⟨#[]⟩ : ByteArray)).size : Int) then some (decide ((bt (a1.Keep.getD (Int.toNat a) (⟨#[]⟩ : ByteArray)) 1) < 97)) else none)) >>= fun d => ((if d = true then some true else (if (0 : Int) ≤ 1 ∧ 1 < ((a1.Keep.getD (Int.toNat a) (⟨#[]⟩ : ByteArray)).size : Int) then some (decide (122 < (bt (a1.Keep.getD (Int.toNat a) (⟨#[]⟩ : ByteArray)) 1))) else none)) >>= fun e => (if e = true then some (Sum.inl ()) else (dR a1 a 0 >>= fun f => match f with | (Sum.inl _) => some (Sum.inl ()) | (Sum.inr _) => eF a1 (ax (a + 1)))))))) else none) else some (Sum.inr ()))
  partial_fixpoint
def gC (a1 : ak) : Option (Bool) :=
  ((if a1.Before < 1 then some true else some (decide (5 < a1.Before))) >>= fun a => ((if a = true then some true else some (decide (a1.Behind < 1))) >>= fun b => ((if b = true then some true else some (decide (5 < a1.Behind))) >>= fun c => ((if c = true then some true else some (decide (20 < (a1.Keep.length : Int)))) >>= fun d => (if d = true then some false else (eF a1 0 >>= fun e => match e with | (Sum.inl _) => some false | (Sum.inr _) => some true))))))
def jk (a1 : ai) (a10 : ak) (e : ByteArray) (a : Int) (a17 : Int) (b : Int) (c : Int) (f : Int) (d : Int) (a22 : List ab) : Option (Bool) :=
  (aL a1 >>= fun g => ((if (!g) = true then some true else (gC a10 >>= fun h => some (!h))) >>= fun i => ((if i = true then some true else (cz e >>= fun j => some (!j))) >>= fun k => ((if k = true then some true else some (decide (a < 50))) >>= fun l => ((if l = true then some true else some (decide (300 < a))) >>= fun m => ((if m = true then some true else (gu a22 f >>= fun n => some (!n))) >>= fun o => (if o = true then some false else ((if 0 ≤ a17 then some (decide (a17 ≤ 1000000)) else some false) >>= fun p => ((if p = true then some (decide (0 ≤ b)) else some false) >>= fun q => ((if q = true then some (decide (b ≤ 2)) else some false) >>= fun r => ((if r = true then some (decide (0 ≤ c)) else some false) >>= fun s => ((if s = true then some (decide (c ≤ 1)) else some false) >>= fun t => ((if t = true then some (decide (0 ≤ d)) else some false) >>= fun u => ((if u = true then some (decide (d ≤ 1000000000)) else some false) >>= fun v => some v))))))))))))))
def ia (a1 : Int) : Option (Bool) :=
  ((if 0 ≤ a1 then some (decide (a1 ≤ 1000000000)) else some false) >>= fun a => some a)
def fY (a1 : Int) : Option (Bool) :=
  ((if 50 ≤ a1 then some (decide (a1 ≤ 300)) else some false) >>= fun a => some a)
def e9 (a1 : ByteArray) (a2 : Int) (a : Int) : Option (Sum Unit Unit) :=
  (if a < a2 then (if (0 : Int) ≤ a ∧ a < (a1.size : Int) then (if ¬ (bt a1 a) = 32 then some (Sum.inl ()) else e9 a1 a2 (ax (a + 1))) else none) else some (Sum.inr ()))
  partial_fixpoint
def kH (a1 : ByteArray) (a2 : Int) : Option (Bool) :=
  (e9 a1 a2 0 >>= fun a => match a with | (Sum.inl _) => some true | (Sum.inr _) => some false)
def gz (a1 : Int) : Option (Bool) :=
  (da a1 >>= fun a => ((if 1 ≤ a then some (decide (a ≤ 3)) else some false) >>= fun b => some b))
def f9 (a1 : Int) : Option (Bool) :=
  (da a1 >>= fun a => ((if a = 1 then some true else some (decide (a = 2))) >>= fun b => some b))
def bT (a1 : ByteArray) (b : Int) (a : Int) (c : Int) (d : Int) : Option (Int × Int) :=
  ((if 0 ≤ a then some (decide (a < (a1.size : Int))) else some false) >>= fun f => (if f = true then (if (0 : Int) ≤ a ∧ a < (a1.size : Int) then (f9 (bt a1 a) >>= fun e => ((if (!e) = true then (if (0 : Int) ≤ a ∧ a < (a1.size : Int) then some (decide (¬ (bt a1 a) = 126)) else none) else some false) >>= fun g => (if g = true then some (c, d) else (if e = true then (if c = 0 then (if (0 : Int) ≤ a ∧ a < (a1.size : Int) then bT a1 b (ax (a + b)) (ax (c + 1)) (bt a1 a) else none) else bT a1 b (ax (a + b)) (ax (c + 1)) d) else bT a1 b (ax (a + b)) c d)))) else none) else some (c, d)))
  partial_fixpoint
def jL (a1 : ByteArray) (a2 : Int) (a : Int) : Option (Int × Int) :=
  (bT a1 a a2 0 0 >>= fun (b, c) => some (b, c))
def eZ (a1 : ak) (a6 : Int) (b : Int) (a : Int) : Option (Sum Unit Unit) :=
  (if a < (a1.Keep.length : Int) then (if (0 : Int) ≤ a ∧ a < (a1.Keep.length : Int) then (if (0 : Int) ≤ 0 ∧ 0 < ((a1.Keep.getD (Int.toNat a) (⟨#[]⟩ : ByteArray)).size : Int) then ((if (bt (a1.Keep.getD (Int.toNat a) (⟨#[]⟩ : ByteArray)) 0) = a6 then (if (0 : Int) ≤ a ∧ a < (a1.Keep.length : Int) then (if (0 : Int) ≤ 1 ∧ 1 < ((a1.Keep.getD (Int.toNat a) (⟨#[]⟩ : ByteArray)).size : Int) then some (decide ((bt (a1.Keep.getD (Int.toNat a) (⟨#[]⟩ : ByteArray)) 1) = b)) else none) else none) else some false) >>= fun c => (if c = true then some (Sum.inl ()) else eZ a1 a6 b (ax (a + 1)))) else none) else none) else some (Sum.inr ()))
  partial_fixpoint
def kI (a1 : ak) (a6 : Int) (a : Int) : Option (Bool) :=
  (eZ a1 a6 a 0 >>= fun b => match b with | (Sum.inl _) => some true | (Sum.inr _) => some false)
def iP (a1 : ak) (a6 : ByteArray) (a : Int) : Option (Bool × Bool) :=
  (if (0 : Int) ≤ ax (a - 1) ∧ ax (a - 1) < (a6.size : Int) then (if (bt a6 (ax (a - 1))) = 32 then (kH a6 a >>= fun c => (if (0 : Int) ≤ a ∧ a < (a6.size : Int) then ((if ¬ (bt a6 a) = 32 then some c else some false) >>= fun d => some (d, false)) else none)) else (if (bt a6 (ax (a - 1))) = 45 then (if a < 2 then some (false, false) else (if (0 : Int) ≤ ax (a - 2) ∧ ax (a - 2) < (a6.size : Int) then (gz (bt a6 (ax (a - 2))) >>= fun e => (if (0 : Int) ≤ a ∧ a < (a6.size : Int) then (gz (bt a6 a) >>= fun f => ((if e = true then some f else some false) >>= fun g => some (g, false))) else none)) else none)) else (if ¬ (bt a6 (ax (a - 1))) = 126 then some (false, false) else (if a < 2 then some (false, false) else (if (0 : Int) ≤ ax (a - 2) ∧ ax (a - 2) < (a6.size : Int) then (f9 (bt a6 (ax (a - 2))) >>= fun h => (if (!h) = true then some (false, false) else (jL a6 (ax (a - 2)) (-1) >>= fun (i, j) => (jL a6 a 1 >>= fun (k, l) => ((if i < a1.Before then some true else some (decide (k < a1.Behind))) >>= fun m => (if m = true then some (false, false) else (kI a1 j l >>= fun b => some (!b, !b)))))))) else none))))) else none)
def eY (a1 : ak) (a6 : ByteArray) (a : List ah) (b : Int) : Option ((List ah)) :=
  (if b < (a6.size : Int) then ((iP a1 a6 b >>= fun (c, d) => (if c = true then (if a.length + 1 ≤ 8796093022208 then some (a ++ [(⟨b, d⟩ : ah)]) else none) else some a)) >>= fun e => eY a1 a6 e (ax (b + 1))) else some a)
  partial_fixpoint
def jq (a1 : ak) (a6 : ByteArray) : Option ((List ah) × Int) :=
  (gC a1 >>= fun a => (cz a6 >>= fun b => ((if (!a) = true then some true else some (!b)) >>= fun c => (if c = true then some (([] : List ah), 1) else (eY a1 a6 ([] : List ah) 1 >>= fun d => some (d, 0))))))
def eM (a1 : ByteArray) (b : List Int) (a : Int) : Option ((List Int)) :=
  (if a < (a1.size : Int) then ((if (0 : Int) ≤ a ∧ a < (a1.size : Int) then (if ¬ (bt a1 a) = 126 then (if (0 : Int) ≤ a ∧ a < (a1.size : Int) then (if b.length + 1 ≤ 140737488355328 then some (b ++ [bt a1 a]) else none) else none) else some b) else none) >>= fun c => eM a1 c (ax (a + 1))) else some b)
  partial_fixpoint
def gx (a1 : ByteArray) : Option ((List Int)) :=
  (eM a1 ([] : List Int) 0 >>= fun a => some a)
def eo (a1 : ai) (b : List Int) (a : Int) : Option (Sum Unit Unit) :=
  (if a < (b.length : Int) then (if (0 : Int) ≤ a ∧ a < (b.length : Int) then (cQ a1 (b.getD (Int.toNat a) (0 : Int)) >>= fun c => (if c < 0 then some (Sum.inl ()) else eo a1 b (ax (a + 1)))) else none) else some (Sum.inr ()))
  partial_fixpoint
def cZ (a1 : ai) (a10 : ByteArray) : Option (Bool × Int) :=
  (aL a1 >>= fun a => (cz a10 >>= fun b => ((if (!a) = true then some true else some (!b)) >>= fun c => (if c = true then some (false, 1) else (gx a10 >>= fun d => (eo a1 d 0 >>= fun e => match e with | (Sum.inl _) => some (false, 0) | (Sum.inr _) => some (true, 0)))))))
def dj (b : List ah) (c : Bool) (a : Int) : Option (Sum Unit Unit) :=
  (if a < (b.length : Int) then (if (0 : Int) ≤ a ∧ a < (b.length : Int) then ((if ((b.getD (Int.toNat a) aG).Hyphen) = true then some (!c) else some false) >>= fun d => (if d = true then some (Sum.inl ()) else dj b c (ax (a + 1)))) else none) else some (Sum.inr ()))
  partial_fixpoint
def iU (a1 : ai) (a10 : ak) (a : ByteArray) (c : Int) : Option ((List ah) × Int) :=
  (aL a1 >>= fun d => (jq a10 a >>= fun (b, e) => (fY c >>= fun f => ((if (!d) = true then some true else some (decide (¬ e = 0))) >>= fun g => ((if g = true then some true else some (!f)) >>= fun h => (if h = true then some (([] : List ah), 1) else (cZ a1 a >>= fun (i, l) => (if (!i) = true then some (([] : List ah), 20) else (cZ a1 (⟨#[45]⟩ : ByteArray) >>= fun (j, m) => (dj b j 0 >>= fun k => match k with | (Sum.inl _) => some (([] : List ah), 20) | (Sum.inr _) => some (b, 0)))))))))))
def iS (a1 : ByteArray) : Option (ByteArray × Int) :=
  (cz a1 >>= fun a => (if (!a) = true then some ((⟨#[]⟩ : ByteArray), 1) else (gB a1 >>= fun b => some (b, 0))))
def fc (a : ByteArray) : Option (ByteArray) :=
  ((if 0 < (a.size : Int) then (if (0 : Int) ≤ 0 ∧ 0 < (a.size : Int) then some (decide ((bt a 0) = 32)) else none) else some false) >>= fun b => (if b = true then (if (0 : Int) ≤ 1 ∧ (1 : Int) ≤ (a.size : Int) then fc (sub a 1 (a.size : Int)) else none) else some a))
  partial_fixpoint
def e8 (a : ByteArray) : Option (ByteArray) :=
  ((if 0 < (a.size : Int) then (if (0 : Int) ≤ ax ((a.size : Int) - 1) ∧ ax ((a.size : Int) - 1) < (a.size : Int) then some (decide ((bt a (ax ((a.size : Int) - 1))) = 32)) else none) else some false) >>= fun b => (if b = true then (if (0 : Int) ≤ (ax ((a.size : Int) - 1)) ∧ (ax ((a.size : Int) - 1)) ≤ (a.size : Int) then e8 (sub a 0 (ax ((a.size : Int) - 1))) else none) else some a))
  partial_fixpoint
def jl (a1 : ByteArray) : Option (ByteArray × Int) :=
  (cz a1 >>= fun a => (if (!a) = true then some ((⟨#[]⟩ : ByteArray), 1) else (fc a1 >>= fun b => (e8 b >>= fun c => some (c, 0)))))
def ii (a1 : ByteArray) (a2 : Int) (a : Int) (a4 : Bool) : Option (ByteArray) :=
  (if (0 : Int) ≤ a2 ∧ (a2 : Int) ≤ a ∧ a ≤ (a1.size : Int) then (iS (sub a1 a2 a) >>= fun (c, d) => (jl c >>= fun (b, e) => (if a4 = true then (if b.size + (⟨#[45]⟩ : ByteArray).size ≤ 9223372036854775807 then some (b ++ (⟨#[45]⟩ : ByteArray)) else none) else some b))) else none)
def dM (a1 : ai) (a10 : Int) (b : Int) (a : Int) : Option (Sum Int Unit) :=
  (if a < (a1.Kerns.length : Int) then (if (0 : Int) ≤ a ∧ a < (a1.Kerns.length : Int) then ((if ((a1.Kerns.getD (Int.toNat a) am).Left) = a10 then (if (0 : Int) ≤ a ∧ a < (a1.Kerns.length : Int) then some (decide (((a1.Kerns.getD (Int.toNat a) am).Right) = b)) else none) else some false) >>= fun c => (if c = true then (if (0 : Int) ≤ a ∧ a < (a1.Kerns.length : Int) then some (Sum.inl ((a1.Kerns.getD (Int.toNat a) am).By)) else none) else dM a1 a10 b (ax (a + 1)))) else none) else some (Sum.inr ()))
  partial_fixpoint
def jj (a1 : ai) (a10 : Int) (a : Int) : Option (Int) :=
  (dM a1 a10 a 0 >>= fun b => match b with | (Sum.inl c) => some c | (Sum.inr _) => some 0)
def er (a1 : ai) (b : List Int) (d : Int) (a : Int) : Option (Int) :=
  (if a < (b.length : Int) then ((if (0 : Int) ≤ a ∧ a < (b.length : Int) then (cQ a1 (b.getD (Int.toNat a) (0 : Int)) >>= fun c => (if (0 : Int) ≤ c ∧ c < (a1.Glyphs.length : Int) then (if 0 < a then (if (0 : Int) ≤ ax (a - 1) ∧ ax (a - 1) < (b.length : Int) then (if (0 : Int) ≤ a ∧ a < (b.length : Int) then (jj a1 (b.getD (Int.toNat (ax (a - 1))) (0 : Int)) (b.getD (Int.toNat a) (0 : Int)) >>= fun e => some (ax ((ax (d + ((a1.Glyphs.getD (Int.toNat c) ao).Advance))) + e))) else none) else none) else some (ax (d + ((a1.Glyphs.getD (Int.toNat c) ao).Advance)))) else none)) else none) >>= fun f => er a1 b f (ax (a + 1))) else some d)
  partial_fixpoint
def j2 (a1 : ai) (a10 : ByteArray) : Option (Int × Int) :=
  (cZ a1 a10 >>= fun (b, a) => (if ¬ a = 0 then some (0, a) else (if (!b) = true then some (0, 20) else (gx a10 >>= fun c => (er a1 c 0 0 >>= fun d => some (d, 0))))))
def fB (a1 : ai) (a10 : ByteArray) (a : Int) : Option (Int × Int) :=
  (cZ a1 a10 >>= fun (b, c) => ((if ¬ c = 0 then some true else some (decide (a < 50))) >>= fun d => ((if d = true then some true else some (decide (300 < a))) >>= fun e => (if e = true then some (0, 1) else (if (!b) = true then some (0, 20) else (j2 a1 a10 >>= fun (f, g) => some (ax (Int.tdiv (ax ((ax (f * a)) + 99)) 100), 0)))))))
def fi (a1 : ai) (a10 : ByteArray) (a : Int) (b : Int) (c : Bool) (d : Int) : Option (az) :=
  (ii a10 a b c >>= fun e => (fB a1 e d >>= fun (f, g) => some (⟨a, b, f, c⟩ : az)))
def dK (a1 : ai) (a10 : List ah) (i : ByteArray) (d : Int) (a17 : Int) (j : Int) (c : Bool) (b : Int) (e : Int) (f : Int) (g : Int) (h : Bool) (k : Int) (l : Int) (m : Int) (n : Bool) : Option (Bool × Int × Int × Int × Bool × Int × Int × Int × Bool) :=
  (if 0 ≤ b then ((if (0 : Int) ≤ b ∧ b < (a10.length : Int) then (if ((a10.getD (Int.toNat b) aG).At) ≤ d then some (Sum.inl ()) else (if (0 : Int) ≤ b ∧ b < (a10.length : Int) then (if (0 : Int) ≤ b ∧ b < (a10.length : Int) then (fi a1 i d ((a10.getD (Int.toNat b) aG).At) ((a10.getD (Int.toNat b) aG).Hyphen) a17 >>= fun a => ((if (!c) = true then some (decide (a.Width ≤ j)) else some false) >>= fun o => (if o = true then some (Sum.inr (true, a.From, a.Until, a.Width, a.Hyphen, a.From, a.Until, a.Width, a.Hyphen)) else some (Sum.inr (c, e, f, g, h, a.From, a.Until, a.Width, a.Hyphen))))) else none) else none)) else none) >>= fun p => match p with | (Sum.inl _) => some (c, e, f, g, h, k, l, m, n) | (Sum.inr (q, r, s, t, u, v, w, x, y)) => dK a1 a10 i d a17 j q (ax (b - 1)) r s t u v w x y) else some (c, e, f, g, h, k, l, m, n))
  partial_fixpoint
def vv := @dK.partial_correctness
def jh (a1 : ai) (a10 : List ah) (b : ByteArray) (c : Int) (a17 : Int) (d : Int) : Option (az) :=
  (fi a1 b c (b.size : Int) false a17 >>= fun a => (dK a1 a10 b c a17 d (decide (a.Width ≤ d)) (ax ((a10.length : Int) - 1)) a.From a.Until a.Width a.Hyphen a.From a.Until a.Width a.Hyphen >>= fun (e, f, g, h, i, j, k, l, m) => (if (!e) = true then some (⟨j, k, l, m⟩ : az) else some (⟨f, g, h, i⟩ : az))))
def fg (a1 : ai) (a10 : ak) (a : ByteArray) (b : Int) (a17 : Int) (c : Int) : Option (az × Int) :=
  (ia c >>= fun e => ((if (!e) = true then some true else some (decide (b < 0))) >>= fun qs => ((if qs = true then some true else some (decide ((a.size : Int) ≤ b))) >>= fun f => (if f = true then some ((⟨0, 0, 0, false⟩ : az), 1) else (iU a1 a10 a a17 >>= fun (g, d) => (if ¬ d = 0 then some ((⟨0, 0, 0, false⟩ : az), d) else (jh a1 g a b a17 c >>= fun h => some (h, 0))))))))
def iv (a1 : ab) (a2 : Int) (a : Int) : Option (Bool) :=
  ((if 0 < a1.H then some (decide (a1.Y < (ax (a2 + (max a 1))))) else some false) >>= fun b => ((if b = true then some (decide (a2 < (ax (a1.Y + a1.H)))) else some false) >>= fun c => some c))
def dN (a1 : List ab) (d : Int) (e : Int) (a : Int) (b : Int) (c : Int) : Option (Int × Int) :=
  (if a < (a1.length : Int) then ((if (0 : Int) ≤ a ∧ a < (a1.length : Int) then (iv (a1.getD (Int.toNat a) ag) d e >>= fun f => (if (!f) = true then some (b, c) else (if (0 : Int) ≤ a ∧ a < (a1.length : Int) then (if ((a1.getD (Int.toNat a) ag).Side) = 1 then (if (0 : Int) ≤ a ∧ a < (a1.length : Int) then (if (0 : Int) ≤ a ∧ a < (a1.length : Int) then some (max b (ax (((a1.getD (Int.toNat a) ag).X) + ((a1.getD (Int.toNat a) ag).W))), c) else none) else none) else (if (0 : Int) ≤ a ∧ a < (a1.length : Int) then some (b, min c ((a1.getD (Int.toNat a) ag).X)) else none)) else none))) else none) >>= fun (g, h) => dN a1 d e (ax (a + 1)) g h) else some (b, c))
  partial_fixpoint
def kJ (a1 : List ab) (a6 : Int) (b : Int) (c : Int) : Option (f8) :=
  (dN a1 b c 0 0 a6 >>= fun (a, d) => some (⟨a, max a d⟩ : f8))
def ik (a1 : List ab) (a6 : Int) (a : Int) (b : Int) : Option (f8 × Int) :=
  (gu a1 a6 >>= fun c => (il a >>= fun d => (eb b >>= fun e => ((if (!c) = true then some true else some (!d)) >>= fun f => ((if f = true then some true else some (!e)) >>= fun g => (if g = true then some ((⟨0, 0⟩ : f8), 1) else (kJ a1 a6 a b >>= fun h => some (h, 0))))))))
def dk (a1 : List ab) (a6 : Int) (c : Int) (b : Int) (a : Int) : Option (Int) :=
  (if a < (a1.length : Int) then (((if (0 : Int) ≤ a ∧ a < (a1.length : Int) then (iv (a1.getD (Int.toNat a) ag) a6 c >>= fun d => (if d = true then (if b < 0 then some true else (if (0 : Int) ≤ a ∧ a < (a1.length : Int) then (if (0 : Int) ≤ a ∧ a < (a1.length : Int) then some (decide ((ax (((a1.getD (Int.toNat a) ag).Y) + ((a1.getD (Int.toNat a) ag).H))) < b)) else none) else none)) else some false)) else none) >>= fun e => (if e = true then (if (0 : Int) ≤ a ∧ a < (a1.length : Int) then (if (0 : Int) ≤ a ∧ a < (a1.length : Int) then some (ax (((a1.getD (Int.toNat a) ag).Y) + ((a1.getD (Int.toNat a) ag).H))) else none) else none) else some b)) >>= fun f => dk a1 a6 c f (ax (a + 1))) else some b)
  partial_fixpoint
def eU (a1 : List ab) (a6 : Int) (a : Int) : Option (Int) :=
  (dk a1 a6 a (-1) 0 >>= fun b => some b)
def kF (a1 : ByteArray) (a2 : Int) : Option (Bool) :=
  (cz a1 >>= fun a => ((if a = true then ((if a2 = 0 then some true else some (decide (a2 = 1))) >>= fun b => some b) else some false) >>= fun c => some c))
def dv (a1 : Int) : Option (Bool) :=
  (da a1 >>= fun a => some (decide (3 < a)))
def cw (a1 : ByteArray) (b : List Int) (c : Int) (a : Int) : Option ((List Int)) :=
  (if a < (a1.size : Int) then ((if (0 : Int) ≤ a ∧ a < (a1.size : Int) then (da (bt a1 a) >>= fun d => (if d = 1 then (if (0 : Int) ≤ a ∧ a < ((List.replicate (Int.toNat (a1.size : Int)) (0 : Int)).length : Int) then some (List.set b (Int.toNat a) 0, 0) else none) else (if d = 2 then (if (0 : Int) ≤ a ∧ a < ((List.replicate (Int.toNat (a1.size : Int)) (0 : Int)).length : Int) then some (List.set b (Int.toNat a) 1, 1) else none) else (if (0 : Int) ≤ a ∧ a < ((List.replicate (Int.toNat (a1.size : Int)) (0 : Int)).length : Int) then some (List.set b (Int.toNat a) c, c) else none)))) else none) >>= fun (e, f) => cw a1 e f (ax (a + 1))) else some b)
  partial_fixpoint
def cM (a1 : ByteArray) (a : Int) : Option (Int) :=
  ((if a < (a1.size : Int) then (if (0 : Int) ≤ a ∧ a < (a1.size : Int) then (dv (bt a1 a) >>= fun b => some b) else none) else some false) >>= fun c => (if c = true then cM a1 (ax (a + 1)) else some a))
  partial_fixpoint
def ci (a1 : ByteArray) (a2 : Int) (b : List Int) (c : Int) (d : Int) (e : List Int) (a : Int) : Option ((List Int)) :=
  (if a < d then ((if (0 : Int) ≤ a ∧ a < ((List.replicate (Int.toNat (a1.size : Int)) (0 : Int)).length : Int) then (if (b.getD (Int.toNat (ax (c - 1))) (0 : Int)) = (b.getD (Int.toNat d) (0 : Int)) then (if (0 : Int) ≤ a ∧ a < ((List.replicate (Int.toNat (a1.size : Int)) (0 : Int)).length : Int) then some (List.set (List.set e (Int.toNat a) a2) (Int.toNat a) (b.getD (Int.toNat (ax (c - 1))) (0 : Int))) else none) else some (List.set e (Int.toNat a) a2)) else none) >>= fun f => ci a1 a2 b c d f (ax (a + 1))) else some e)
  partial_fixpoint
def cj (a1 : ByteArray) (a2 : Int) (b : List Int) (c : Int) (e : Int) (d : List Int) (a : Int) : Option ((List Int)) :=
  (if a < e then ((if (0 : Int) ≤ a ∧ a < ((List.replicate (Int.toNat (a1.size : Int)) (0 : Int)).length : Int) then (if (b.getD (Int.toNat (ax (c - 1))) (0 : Int)) = a2 then (if (0 : Int) ≤ a ∧ a < ((List.replicate (Int.toNat (a1.size : Int)) (0 : Int)).length : Int) then some (List.set (List.set d (Int.toNat a) a2) (Int.toNat a) (b.getD (Int.toNat (ax (c - 1))) (0 : Int))) else none) else some (List.set d (Int.toNat a) a2)) else none) >>= fun f => cj a1 a2 b c e f (ax (a + 1))) else some d)
  partial_fixpoint
def cR (a1 : ByteArray) (a : Int) : Option (Int) :=
  ((if a < (a1.size : Int) then (if (0 : Int) ≤ a ∧ a < (a1.size : Int) then (dv (bt a1 a) >>= fun b => some b) else none) else some false) >>= fun c => (if c = true then cR a1 (ax (a + 1)) else some a))
  partial_fixpoint
def ck (a1 : ByteArray) (a2 : Int) (d : List Int) (b : Int) (c : List Int) (a : Int) : Option ((List Int)) :=
  (if a < b then ((if (0 : Int) ≤ a ∧ a < ((List.replicate (Int.toNat (a1.size : Int)) (0 : Int)).length : Int) then (if a2 = (d.getD (Int.toNat b) (0 : Int)) then (if (0 : Int) ≤ a ∧ a < ((List.replicate (Int.toNat (a1.size : Int)) (0 : Int)).length : Int) then some (List.set (List.set c (Int.toNat a) a2) (Int.toNat a) a2) else none) else some (List.set c (Int.toNat a) a2)) else none) >>= fun e => ck a1 a2 d b e (ax (a + 1))) else some c)
  partial_fixpoint
def cg (a1 : ByteArray) (a2 : Int) (c : Int) (b : List Int) (a : Int) : Option ((List Int)) :=
  (if a < c then ((if (0 : Int) ≤ a ∧ a < ((List.replicate (Int.toNat (a1.size : Int)) (0 : Int)).length : Int) then (if a2 = a2 then (if (0 : Int) ≤ a ∧ a < ((List.replicate (Int.toNat (a1.size : Int)) (0 : Int)).length : Int) then some (List.set (List.set b (Int.toNat a) a2) (Int.toNat a) a2) else none) else some (List.set b (Int.toNat a) a2)) else none) >>= fun d => cg a1 a2 c d (ax (a + 1))) else some b)
  partial_fixpoint
def aJ (a1 : ByteArray) (a2 : Int) (b : List Int) (a : Int) : Option ((List Int)) :=
  (if a < (a1.size : Int) then ((if (0 : Int) ≤ a ∧ a < (a1.size : Int) then (dv (bt a1 a) >>= fun e => ((if (!e) = true then some true else ((if 0 < a then (if (0 : Int) ≤ ax (a - 1) ∧ ax (a - 1) < (a1.size : Int) then (dv (bt a1 (ax (a - 1))) >>= fun f => some f) else none) else some false) >>= fun g => some g)) >>= fun h => (if h = true then some b else (if 0 < a then (if (0 : Int) ≤ ax (a - 1) ∧ ax (a - 1) < ((List.replicate (Int.toNat (a1.size : Int)) (0 : Int)).length : Int) then (cM a1 a >>= fun c => (if c < (a1.size : Int) then (if (0 : Int) ≤ c ∧ c < ((List.replicate (Int.toNat (a1.size : Int)) (0 : Int)).length : Int) then (ci a1 a2 b a c b a >>= fun i => some i) else none) else (cj a1 a2 b a c b a >>= fun j => some j))) else none) else (cR a1 a >>= fun d => (if d < (a1.size : Int) then (if (0 : Int) ≤ d ∧ d < ((List.replicate (Int.toNat (a1.size : Int)) (0 : Int)).length : Int) then (ck a1 a2 b d b a >>= fun k => some k) else none) else (cg a1 a2 d b a >>= fun l => some l))))))) else none) >>= fun m => aJ a1 a2 m (ax (a + 1))) else some b)
  partial_fixpoint
def fy (a1 : ByteArray) (a2 : Int) : Option ((List Int)) :=
  (if (0 : Int) ≤ (a1.size : Int) ∧ (8 : Int) * (a1.size : Int) ≤ 281474976710656 ∧ (a1.size : Int) ≤ 9223372036854775807 then (cw a1 (List.replicate (Int.toNat (a1.size : Int)) (0 : Int)) a2 0 >>= fun a => (aJ a1 a2 a 0 >>= fun b => some b)) else none)
def cI (a1 : ByteArray) (a2 : Int) (b : List Int) (c : List Int) (a : Int) : Option ((List Int)) :=
  (if a < (a1.size : Int) then ((if (0 : Int) ≤ a ∧ a < (a1.size : Int) then (da (bt a1 a) >>= fun d => (if (0 : Int) ≤ a ∧ a < (b.length : Int) then ((if (c.getD (Int.toNat a) (0 : Int)) = 1 then some (decide (¬ (d = 3))) else some false) >>= fun e => (if e = true then (if (0 : Int) ≤ a ∧ a < (b.length : Int) then some (List.set c (Int.toNat a) 1) else none) else ((if a2 = 0 then (if (0 : Int) ≤ a ∧ a < (b.length : Int) then some (decide ((c.getD (Int.toNat a) (0 : Int)) = 0)) else none) else some false) >>= fun f => (if f = true then (if (0 : Int) ≤ a ∧ a < (b.length : Int) then some (List.set c (Int.toNat a) 0) else none) else (if (0 : Int) ≤ a ∧ a < (b.length : Int) then some (List.set c (Int.toNat a) 2) else none))))) else none)) else none) >>= fun g => cI a1 a2 b g (ax (a + 1))) else some c)
  partial_fixpoint
def iu (a1 : ByteArray) (a2 : Int) : Option ((List Int) × Int) :=
  (kF a1 a2 >>= fun b => (if (!b) = true then some (([] : List Int), 1) else (fy a1 a2 >>= fun a => (cI a1 a2 a a 0 >>= fun c => some (c, 0)))))
def dp (a1 : List Int) (a6 : List Int) (a17 : Int) (a : Int) : Option (Int) :=
  ((if a < (a1.length : Int) then (if (0 : Int) ≤ a ∧ a < (a1.length : Int) then (if (0 : Int) ≤ a1.getD (Int.toNat a) (0 : Int) ∧ a1.getD (Int.toNat a) (0 : Int) < (a6.length : Int) then some (decide (a17 ≤ (a6.getD (Int.toNat (a1.getD (Int.toNat a) (0 : Int))) (0 : Int)))) else none) else none) else some false) >>= fun b => (if b = true then dp a1 a6 a17 (ax (a + 1)) else some a))
  partial_fixpoint
def dn (a1 : List Int) (c : Int) (b : List Int) (a : Int) : Option ((List Int)) :=
  (if c ≤ a then (if (0 : Int) ≤ a ∧ a < (a1.length : Int) then (if b.length + 1 ≤ 17592186044416 then dn a1 c (b ++ [a1.getD (Int.toNat a) (0 : Int)]) (ax (a - 1)) else none) else none) else some b)
  partial_fixpoint
def bB (a1 : List Int) (a6 : List Int) (a17 : Int) (b : List Int) (a : Int) : Option ((List Int)) :=
  (if a < (a1.length : Int) then ((if (0 : Int) ≤ a ∧ a < (a1.length : Int) then (if (0 : Int) ≤ a1.getD (Int.toNat a) (0 : Int) ∧ a1.getD (Int.toNat a) (0 : Int) < (a6.length : Int) then (if (a6.getD (Int.toNat (a1.getD (Int.toNat a) (0 : Int))) (0 : Int)) < a17 then (if (0 : Int) ≤ a ∧ a < (a1.length : Int) then (if b.length + 1 ≤ 17592186044416 then some (b ++ [a1.getD (Int.toNat a) (0 : Int)], a) else none) else none) else (dp a1 a6 a17 a >>= fun c => (dn a1 a b (ax (c - 1)) >>= fun d => some (d, ax (c - 1))))) else none) else none) >>= fun (e, f) => bB a1 a6 a17 e (ax (f + 1))) else some b)
  partial_fixpoint
def dx (a1 : List Int) (a6 : List Int) (a17 : Int) : Option ((List Int)) :=
  (bB a1 a6 a17 ([] : List Int) 0 >>= fun a => some a)
def dz (a1 : ByteArray) (a : List Int) (b : Int) : Option ((List Int)) :=
  (if b < (a1.size : Int) then (if a.length + 1 ≤ 17592186044416 then dz a1 (a ++ [b]) (ax (b + 1)) else none) else some a)
  partial_fixpoint
def iO (a1 : ByteArray) (a2 : Int) : Option ((List Int) × Int) :=
  (iu a1 a2 >>= fun (a, b) => (if ¬ b = 0 then some (([] : List Int), b) else (dz a1 ([] : List Int) 0 >>= fun c => (dx c a 2 >>= fun d => (dx d a 1 >>= fun e => some (e, 0))))))
def dh (a1 : ByteArray) (a : List Int) (b : List Int) (qs : Int) : Option ((List Int)) :=
  (if qs < (a.length : Int) then (if (0 : Int) ≤ qs ∧ qs < (a.length : Int) then (if (0 : Int) ≤ a.getD (Int.toNat qs) (0 : Int) ∧ a.getD (Int.toNat qs) (0 : Int) < (a1.size : Int) then (if b.length + 1 ≤ 140737488355328 then dh a1 a (b ++ [bt a1 (a.getD (Int.toNat qs) (0 : Int))]) (ax (qs + 1)) else none) else none) else none) else some b)
  partial_fixpoint
def ir (a1 : ByteArray) (a2 : Int) : Option (ByteArray × Int) :=
  (iO a1 a2 >>= fun (b, a) => (if ¬ a = 0 then some ((⟨#[]⟩ : ByteArray), a) else (dh a1 b ([] : List Int) 0 >>= fun c => some (qI c, 0))))
def iR (a1 : Int) (a2 : Int) : Option (Int) :=
  (if a2 ≠ 0 then (if a2 ≠ 0 then (if (Int.tmod a1 a2) < 0 then some (ax ((ax (Int.tdiv a1 a2)) - 1)) else some (ax (Int.tdiv a1 a2))) else none) else none)
def eE (a1 : ai) (a10 : ByteArray) (a : az) (g : Int) (d : Int) (b : Int) (c : Int) : Option (ByteArray × Int × Int) :=
  (aL a1 >>= fun j => (cz a10 >>= fun k => (fY g >>= fun l => (ia d >>= fun m => ((if (!j) = true then some true else some (!k)) >>= fun n => ((if n = true then some true else some (!l)) >>= fun o => ((if o = true then some true else some (!m)) >>= fun p => ((if p = true then some true else some (decide (b < 0))) >>= fun q => ((if q = true then some true else some (decide (2 < b))) >>= fun r => ((if r = true then some true else some (decide (c < 0))) >>= fun s => ((if s = true then some true else some (decide (1 < c))) >>= fun t => ((if t = true then some true else some (decide (a.From < 0))) >>= fun u => ((if u = true then some true else some (decide (a.Until ≤ a.From))) >>= fun v => ((if v = true then some true else some (decide ((a10.size : Int) < a.Until))) >>= fun w => (if w = true then some ((⟨#[]⟩ : ByteArray), 0, 1) else (ii a10 a.From a.Until a.Hyphen >>= fun h => (fB a1 h g >>= fun (e, i) => (if ¬ i = 0 then some ((⟨#[]⟩ : ByteArray), 0, i) else (if ¬ e = a.Width then some ((⟨#[]⟩ : ByteArray), 0, 1) else (ir h c >>= fun (f, y) => (if b = 2 then (iR (ax (d - e)) 2 >>= fun x => some (f, x, 0)) else (if b = c then some (f, 0, 0) else some (f, ax (d - e), 0)))))))))))))))))))))))
def cp (a1 : ai) (a10 : ak) (a : ByteArray) (e : Int) (a17 : Int) (g : Int) (h : Int) (i : Int) (a22 : List ab) (f : List an) (j : Int) (k : Int) (d : Int) : Option (Sum Unit ((List an) × Int)) :=
  (if 0 < k then (if 1000000000 < d then some (Sum.inl ()) else (ik a22 i d a17 >>= fun (b, q) => (fg a1 a10 a j e (ax (b.Hi - b.Lo)) >>= fun (c, r) => (eU a22 d a17 >>= fun l => ((if (ax (b.Hi - b.Lo)) < c.Width then some (decide (0 ≤ l)) else some false) >>= fun m => (if m = true then cp a1 a10 a e a17 g h i a22 f j k l else (eE a1 a c e (ax (b.Hi - b.Lo)) g h >>= fun (n, o, s) => (if f.length + 1 ≤ 2932031007402 then (if (0 : Int) ≤ c.Until ∧ (c.Until : Int) ≤ (a.size : Int) then (dG (sub a c.Until (a.size : Int)) >>= fun (p, t) => cp a1 a10 a e a17 g h i a22 (f ++ [(⟨n, ax (b.Lo + o), d, c.Width, a17⟩ : an)]) c.Until p (ax (d + a17))) else none) else none)))))))) else some (Sum.inr (f, d)))
  partial_fixpoint
def uq := @cp.partial_correctness
def dg (a1 : ai) (a10 : ak) (a : ByteArray) (e : Int) (a17 : Int) (g : Int) (h : Int) (i : Int) (a22 : List ab) (f : List an) (j : Int) (k : Int) (d : Int) : Option (Sum Unit ((List an) × Int)) :=
  (if 0 < k then (if 1000000000 < d then some (Sum.inl ()) else (ik a22 i d a17 >>= fun (b, q) => (fg a1 a10 a j e (ax (b.Hi - b.Lo)) >>= fun (c, r) => (eU a22 d a17 >>= fun l => ((if (ax (b.Hi - b.Lo)) < c.Width then some (decide (0 ≤ l)) else some false) >>= fun m => (if m = true then dg a1 a10 a e a17 g h i a22 f j k l else (eE a1 a c e (ax (b.Hi - b.Lo)) g h >>= fun (n, o, s) => (if f.length + 1 ≤ 2932031007402 then (if (0 : Int) ≤ c.Until ∧ (c.Until : Int) ≤ (a.size : Int) then (dG (sub a c.Until (a.size : Int)) >>= fun (p, t) => dg a1 a10 a e a17 g h i a22 (f ++ [(⟨n, ax (b.Lo + o), d, c.Width, a17⟩ : an)]) c.Until p (ax (d + a17))) else none) else none)))))))) else some (Sum.inr (f, d)))
  partial_fixpoint
def ux := @dg.partial_correctness
def gv (a1 : ai) (a10 : ak) (a : ByteArray) (b : Int) (a17 : Int) (d : Int) (e : Int) (c : Int) (f : Int) (a22 : List ab) : Option ((List an) × Int × Int) :=
  (jk a1 a10 a b a17 d e c f a22 >>= fun j => (if (!j) = true then some (([] : List an), 0, 1) else (if 0 < (a.size : Int) then (fg a1 a10 a 0 b c >>= fun (q, g) => (if ¬ g = 0 then some (([] : List an), 0, g) else (dG a >>= fun (k, r) => (cp a1 a10 a b a17 d e c a22 ([] : List an) 0 k f >>= fun l => match l with | (Sum.inl _) => some (([] : List an), 0, 3) | (Sum.inr (m, h)) => (if 1000000000 < h then some (([] : List an), 0, 3) else some (m, h, 0)))))) else (dG a >>= fun (n, s) => (dg a1 a10 a b a17 d e c a22 ([] : List an) 0 n f >>= fun o => match o with | (Sum.inl _) => some (([] : List an), 0, 3) | (Sum.inr (p, i)) => (if 1000000000 < i then some (([] : List an), 0, 3) else some (p, i, 0)))))))
def dr (a1 : ai) (a10 : ak) (b : ByteArray) (a : eX) (a17 : List ab) : Option (Bool) :=
  (ig >>= fun c => (j1 a1 b a17 >>= fun d => (if (!d) = true then some c else (iW a1 a10 b a a17 >>= fun (e, f, g) => (gv a1 a10 b a.Scale a.Line a.Align a.Dir a.Width a.Y a17 >>= fun (h, i, j) => ((if c = true then (ec e h >>= fun k => some k) else some false) >>= fun l => ((if l = true then some (decide (f = i)) else some false) >>= fun m => ((if m = true then some (decide (g = j)) else some false) >>= fun n => some n))))))))
end Go.Proofs.YtaemgcpcfnbmdaaGreatDoor.LG
