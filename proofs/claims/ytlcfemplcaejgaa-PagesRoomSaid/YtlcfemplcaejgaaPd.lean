/-
  What the functions compute, as plain Lean functions: printed by a program out of the translation.
-/
import Derived.Test.YtlcfemplcaejgaaLgP
set_option linter.unusedVariables false
set_option linter.defProp false
set_option synthInstance.maxSize 4000
set_option synthInstance.maxHeartbeats 1000000
namespace Go.Proofs.Ytlcfemplcaejgaa.LG
open Go Go.LG
structure eO where
  Lo : Int
  Hi : Int
  deriving DecidableEq
def kr : eO := ⟨(0 : Int), (0 : Int)⟩
structure bG where
  Lang : Int
  Scale : eO
  Width : eO
  deriving DecidableEq
def bW : bG := ⟨(0 : Int), kr, kr⟩
structure bP where
  Width : Int
  Scale : Int
  Lang : Int
  deriving DecidableEq
def pI : bP := ⟨(0 : Int), (0 : Int), (0 : Int)⟩
structure ax where
  Width : Int
  Height : Int
  Columns : Int
  Gap : Int
  Scale : Int
  Lang : Int
  deriving DecidableEq
def mf : ax := ⟨(0 : Int), (0 : Int), (0 : Int), (0 : Int), (0 : Int), (0 : Int)⟩
structure aX where
  Paper : ax
  deriving DecidableEq
def lk : aX := ⟨mf⟩
structure ac where
  Node : Int
  Table : Int
  X : Int
  Y : Int
  H : Int
  Text : ByteArray
  Head : Bool
  Note : Bool
  deriving DecidableEq
def aa : ac := ⟨(0 : Int), (0 : Int), (0 : Int), (0 : Int), (0 : Int), (⟨#[]⟩ : ByteArray), false, false⟩
structure ak where
  slices : List ac
  notes : List ac
  end_ : Int
  deriving DecidableEq
def am : ak := ⟨([] : List ac), ([] : List ac), (0 : Int)⟩
structure ai where
  sheet : aX
  placed : List ac
  notes : List ac
  fills : List Int
  deriving DecidableEq
def pn : ai := ⟨lk, ([] : List ac), ([] : List ac), ([] : List Int)⟩
structure ap where
  Number : Int
  Slices : List ac
  deriving DecidableEq
def av : ap := ⟨(0 : Int), ([] : List ac)⟩
structure ao where
  Slices : List ac
  Notes : List ac
  End : Int
  Kept : Bool
  deriving DecidableEq
def ab : ao := ⟨([] : List ac), ([] : List ac), (0 : Int), false⟩
def ba (a1 : Int) (a : Int) (a3 : Int) : Option (Bool) :=
  ((if a ≤ a1 then some (decide (a1 ≤ a3)) else some false) >>= fun b => some b)
def ga (a1 : eO) (a : Int) (a3 : Int) : Option (Bool) :=
  ((if a ≤ a1.Lo then some (decide (a1.Lo ≤ a1.Hi)) else some false) >>= fun b => ((if b = true then some (decide (a1.Hi ≤ a3)) else some false) >>= fun c => some c))
def fT (a1 : bG) : Option (Bool) :=
  ((if 0 ≤ a1.Lang then some (decide (a1.Lang < 4)) else some false) >>= fun a => ((if a = true then (ga a1.Scale 50 300 >>= fun b => some b) else some false) >>= fun c => ((if c = true then (ga a1.Width 200 4000 >>= fun d => some d) else some false) >>= fun e => some e)))
def gx (a1 : bG) : Option (Bool) :=
  (fT a1 >>= fun a => some (!a))
def aN (a1 : List bG) (a : Int) : Option (Sum Int Unit) :=
  (if a < (a1.length : Int) then (if (0 : Int) ≤ a ∧ a < (a1.length : Int) then (gx (a1.getD (Int.toNat a) bW) >>= fun b => (if b = true then some (Sum.inl a) else aN a1 (aj (a + 1)))) else none) else some (Sum.inr ()))
  partial_fixpoint
def bA (a1 : List bG) : Option (Int) :=
  (aN a1 0 >>= fun a => match a with | (Sum.inl b) => some b | (Sum.inr _) => some (-1))
def aY (a1 : List bG) : Option (Bool) :=
  (bA a1 >>= fun a => some (decide (0 ≤ a)))
def fh (a1 : List bG) : Option (Bool) :=
  ((if (a1.length : Int) ≤ 1000 then (aY a1 >>= fun a => some (!a)) else some false) >>= fun b => some b)
def i5 (a1 : bP) : Option (bG) :=
  some (⟨a1.Lang, (⟨a1.Scale, a1.Scale⟩ : eO), (⟨a1.Width, a1.Width⟩ : eO)⟩ : bG)
def j3 (a1 : eO) (a : Int) : Option (Bool) :=
  ((if a1.Lo ≤ a then some (decide (a ≤ a1.Hi)) else some false) >>= fun b => some b)
def f7 (a1 : bG) (a : bP) : Option (Bool) :=
  ((if a1.Lang = a.Lang then (j3 a1.Scale a.Scale >>= fun b => some b) else some false) >>= fun c => ((if c = true then (j3 a1.Width a.Width >>= fun d => some d) else some false) >>= fun e => some e))
def aO (a1 : List bG) (b : bP) (a : Int) : Option (Sum Int Unit) :=
  (if a < (a1.length : Int) then (if (0 : Int) ≤ a ∧ a < (a1.length : Int) then (f7 (a1.getD (Int.toNat a) bW) b >>= fun c => (if c = true then some (Sum.inl a) else aO a1 b (aj (a + 1)))) else none) else some (Sum.inr ()))
  partial_fixpoint
def bz (a1 : List bG) (a : bP) : Option (Int) :=
  (aO a1 a 0 >>= fun b => match b with | (Sum.inl c) => some c | (Sum.inr _) => some (-1))
def aQ (a1 : List bG) (a : bP) : Option (Bool) :=
  (bz a1 a >>= fun b => some (decide (0 ≤ b)))
def ip (a1 : List bG) (a6 : bP) : Option (Bool × Int) :=
  (fh a1 >>= fun a => ((if (!a) = true then some true else (i5 a6 >>= fun b => (fT b >>= fun c => some (!c)))) >>= fun d => (if d = true then some (false, 1) else (aQ a1 a6 >>= fun e => some (e, 0)))))
def dT (a1 : bP) : Option (Bool) :=
  (ip ([] : List bG) a1 >>= fun (b, a) => some (decide (a = 0)))
def cu (a1 : aX) : Option (Int) :=
  (if a1.Paper.Columns ≠ 0 then some (max 0 (aj (Int.tdiv (aj (a1.Paper.Width - (aj (a1.Paper.Gap * (aj (a1.Paper.Columns - 1)))))) a1.Paper.Columns))) else none)
def du (a1 : aX) : Option (bP) :=
  (cu a1 >>= fun a => some (⟨a, a1.Paper.Scale, a1.Paper.Lang⟩ : bP))
def cH (a1 : aX) : Option (Bool) :=
  (ba a1.Paper.Columns 1 8 >>= fun a => ((if a = true then (ba a1.Paper.Gap 0 1000 >>= fun b => some b) else some false) >>= fun c => ((if c = true then (ba a1.Paper.Width 1 100000 >>= fun d => some d) else some false) >>= fun e => ((if e = true then (ba a1.Paper.Height 1 1000000 >>= fun f => some f) else some false) >>= fun g => ((if g = true then (du a1 >>= fun h => (dT h >>= fun i => some i)) else some false) >>= fun j => some j)))))
def cX (a1 : Int) : Option (Bool) :=
  (ba a1 (-1000000000) 1000000000 >>= fun a => some (!a))
def aI (a1 : List Int) (a : Int) : Option (Sum Int Unit) :=
  (if a < (a1.length : Int) then (if (0 : Int) ≤ a ∧ a < (a1.length : Int) then (cX (a1.getD (Int.toNat a) (0 : Int)) >>= fun b => (if b = true then some (Sum.inl a) else aI a1 (aj (a + 1)))) else none) else some (Sum.inr ()))
  partial_fixpoint
def bX (a1 : List Int) : Option (Int) :=
  (aI a1 0 >>= fun a => match a with | (Sum.inl b) => some b | (Sum.inr _) => some (-1))
def bI (a1 : List Int) : Option (Bool) :=
  (bX a1 >>= fun a => some (decide (0 ≤ a)))
def db (a1 : List Int) : Option (Bool) :=
  (bI a1 >>= fun a => some (!a))
def fU (a1 : Int) : Option (Int) :=
  (if a1 = 32 then some 4 else (if a1 = 126 then some 6 else ((if a1 < 32 then some true else some (decide (126 < a1))) >>= fun a => (if a = true then some 0 else ((if 97 ≤ a1 then some (decide (a1 ≤ 122)) else some false) >>= fun b => (if b = true then some 1 else ((if 65 ≤ a1 then some (decide (a1 ≤ 90)) else some false) >>= fun c => (if c = true then some 2 else ((if 48 ≤ a1 then some (decide (a1 ≤ 57)) else some false) >>= fun d => (if d = true then some 3 else some 5))))))))))
def cT (a1 : ByteArray) (a : Nat) : Option (Sum Nat Nat) :=
  (if a < a1.size then ((if 126 < ((Utf8.decode a1 a).1 : Int) then some true else (fU (wu8 (((Utf8.decode a1 a).1 : Int))) >>= fun b => some (decide (b = 0)))) >>= fun c => (if c = true then some (Sum.inl (a + (Utf8.decode a1 a).2)) else cT a1 (a + (Utf8.decode a1 a).2))) else some (Sum.inr a))
  partial_fixpoint
def ed (a1 : ByteArray) : Option (Bool) :=
  (cT a1 0 >>= fun a => match a with | (Sum.inl b) => some false | (Sum.inr c) => some (decide ((a1.size : Int) ≤ 2000)))
def bR (a1 : List ac) (a : Int) : Option (Sum Unit Unit) :=
  (if a < (a1.length : Int) then (if (0 : Int) ≤ a ∧ a < (a1.length : Int) then ((ba ((a1.getD (Int.toNat a) aa).Node) 1 1000000 >>= fun b => (if (!b) = true then some true else (ba ((a1.getD (Int.toNat a) aa).Table) 0 1000000 >>= fun c => (if (!c) = true then some true else (db ([(a1.getD (Int.toNat a) aa).X, (a1.getD (Int.toNat a) aa).Y] : List Int) >>= fun d => (if (!d) = true then some true else (ba ((a1.getD (Int.toNat a) aa).H) 0 1000000 >>= fun e => (if (!e) = true then some true else (ed ((a1.getD (Int.toNat a) aa).Text) >>= fun f => (if (!f) = true then some true else (if 0 < a then (if (0 : Int) ≤ aj (a - 1) ∧ aj (a - 1) < (a1.length : Int) then some (decide (((a1.getD (Int.toNat a) aa).Y) < ((a1.getD (Int.toNat (aj (a - 1))) aa).Y))) else none) else some false))))))))))) >>= fun g => (if g = true then some (Sum.inl ()) else bR a1 (aj (a + 1)))) else none) else some (Sum.inr ()))
  partial_fixpoint
def dp (a1 : List ac) (a6 : List Bool) : Option (Bool) :=
  ((if 10000 < (a1.length : Int) then some true else some (decide (¬ (a6.length : Int) = (a1.length : Int)))) >>= fun a => (if a = true then some false else (bR a1 0 >>= fun b => match b with | (Sum.inl _) => some false | (Sum.inr _) => some true)))
def cS (a1 : List ac) (b : Int) (a : Int) : Option (Int) :=
  (if a < (a1.length : Int) then (if (0 : Int) ≤ a ∧ a < (a1.length : Int) then cS a1 (aj (b + ((a1.getD (Int.toNat a) aa).H))) (aj (a + 1)) else none) else some b)
  partial_fixpoint
def dB (a1 : List ac) : Option (Int) :=
  (cS a1 0 0 >>= fun a => some a)
def gb (a1 : List ac) (a6 : List Bool) : Option ((List ac) × (List Bool)) :=
  some (a1, a6)
def cG (a1 : ak) : Option (Int) :=
  (if (0 : Int) ≤ 0 ∧ 0 < (a1.slices.length : Int) then some ((a1.slices.getD (Int.toNat 0) aa).Y) else none)
def bj (a1 : ak) : Option (Int) :=
  (cG a1 >>= fun a => some (aj (a1.end_ - a)))
def a5 (a3 : ai) (b : List ac) (d : Int) (e : Int) (f : Int) (a : Int) (c : List ac) : Option ((List ac)) :=
  (if a < (b.length : Int) then (if (0 : Int) ≤ a ∧ a < (b.length : Int) then (if c.length + 1 ≤ 2199023255552 then a5 a3 b d e f (aj (a + 1)) (c ++ [(⟨(b.getD (Int.toNat a) aa).Node, (b.getD (Int.toNat a) aa).Table, aj (((b.getD (Int.toNat a) aa).X) + (aj ((aj ((a3.fills.length : Int) - 1)) * (aj (f + a3.sheet.Paper.Gap))))), aj ((aj (((b.getD (Int.toNat a) aa).Y) - d)) + e), (b.getD (Int.toNat a) aa).H, (b.getD (Int.toNat a) aa).Text, (b.getD (Int.toNat a) aa).Head, (b.getD (Int.toNat a) aa).Note⟩ : ac)]) else none) else none) else some c)
  partial_fixpoint
def ce (a3 : ai) (a : List ac) (b : Int) (c : Int) : Option (ai) :=
  (cu a3.sheet >>= fun d => (a5 a3 a b c d 0 a3.placed >>= fun e => some (⟨a3.sheet, e, a3.notes, a3.fills⟩ : ai)))
def bk (a3 : ai) (b : ak) (c : Int) : Option (ai) :=
  (cG b >>= fun d => (ce a3 b.slices d c >>= fun a => (bj b >>= fun e => (if (0 : Int) ≤ aj ((a.fills.length : Int) - 1) ∧ aj ((a.fills.length : Int) - 1) < (a.fills.length : Int) then (if a.notes.length + b.notes.length ≤ 2199023255552 then some (⟨a.sheet, a.placed, a.notes ++ b.notes, List.set a.fills (Int.toNat (aj ((a.fills.length : Int) - 1))) (aj (c + e))⟩ : ai) else none) else none))))
def bf (f : ak) (c : List ak) (a : Int) (d : List ac) (e : Int) (b : Int) : Option (Sum ((List ac) × Int) ((List ac) × Int)) :=
  (if b < (((c.getD (Int.toNat (aj (a - 1))) am).slices).length : Int) then ((if (0 : Int) ≤ b ∧ b < (((c.getD (Int.toNat (aj (a - 1))) am).slices).length : Int) then ((if ((((c.getD (Int.toNat (aj (a - 1))) am).slices).getD (Int.toNat b) aa).Head) = true then some (decide (a = 0)) else some false) >>= fun g => (if g = true then some (Sum.inl ()) else ((if ((((c.getD (Int.toNat (aj (a - 1))) am).slices).getD (Int.toNat b) aa).Head) = true then some (decide (((((c.getD (Int.toNat (aj (a - 1))) am).slices).getD (Int.toNat b) aa).Table) = ((f.slices.getD (Int.toNat 0) aa).Table))) else some false) >>= fun h => (if h = true then (if d.length + 1 ≤ 2199023255552 then (if (0 : Int) ≤ 0 ∧ 0 < ((d ++ [(((c.getD (Int.toNat (aj (a - 1))) am).slices).getD (Int.toNat b) aa)]).length : Int) then some (Sum.inr (d ++ [(((c.getD (Int.toNat (aj (a - 1))) am).slices).getD (Int.toNat b) aa)], max e (aj ((aj (((((c.getD (Int.toNat (aj (a - 1))) am).slices).getD (Int.toNat b) aa).Y) + ((((c.getD (Int.toNat (aj (a - 1))) am).slices).getD (Int.toNat b) aa).H))) - (((d ++ [(((c.getD (Int.toNat (aj (a - 1))) am).slices).getD (Int.toNat b) aa)]).getD (Int.toNat 0) aa).Y))))) else none) else none) else some (Sum.inr (d, e)))))) else none) >>= fun i => match i with | (Sum.inl _) => some (Sum.inl (d, e)) | (Sum.inr (j, k)) => bf f c a j k (aj (b + 1))) else some (Sum.inr (d, e)))
  partial_fixpoint
def bg (a : ak) (e : Int) (c : List ac) (d : Int) (b : Int) : Option (Sum ((List ac) × Int) ((List ac) × Int)) :=
  (if b < (a.slices.length : Int) then ((if (0 : Int) ≤ b ∧ b < (a.slices.length : Int) then ((if ((a.slices.getD (Int.toNat b) aa).Head) = true then some (decide (e = 0)) else some false) >>= fun f => (if f = true then some (Sum.inl ()) else ((if ((a.slices.getD (Int.toNat b) aa).Head) = true then some (decide (((a.slices.getD (Int.toNat b) aa).Table) = ((a.slices.getD (Int.toNat 0) aa).Table))) else some false) >>= fun g => (if g = true then (if c.length + 1 ≤ 2199023255552 then (if (0 : Int) ≤ 0 ∧ 0 < ((c ++ [(a.slices.getD (Int.toNat b) aa)]).length : Int) then some (Sum.inr (c ++ [(a.slices.getD (Int.toNat b) aa)], max d (aj ((aj (((a.slices.getD (Int.toNat b) aa).Y) + ((a.slices.getD (Int.toNat b) aa).H))) - (((c ++ [(a.slices.getD (Int.toNat b) aa)]).getD (Int.toNat 0) aa).Y))))) else none) else none) else some (Sum.inr (c, d)))))) else none) >>= fun h => match h with | (Sum.inl _) => some (Sum.inl (c, d)) | (Sum.inr (i, j)) => bg a e i j (aj (b + 1))) else some (Sum.inr (c, d)))
  partial_fixpoint
def aW (b : ak) (c : List ak) (d : List ac) (e : Int) (a : Int) : Option ((List ac) × Int) :=
  ((if a ≤ (c.length : Int) then some (decide (¬ ((b.slices.getD (Int.toNat 0) aa).Table) = 0)) else some false) >>= fun f => (if f = true then ((if 0 < a then (if (0 : Int) ≤ aj (a - 1) ∧ aj (a - 1) < (c.length : Int) then (bf b c a d e 0 >>= fun g => match g with | (Sum.inl (h, i)) => some (Sum.inl (h, i)) | (Sum.inr (j, k)) => some (Sum.inr (j, k))) else none) else (bg b a d e 0 >>= fun l => match l with | (Sum.inl (m, n)) => some (Sum.inl (m, n)) | (Sum.inr (o, p)) => some (Sum.inr (o, p)))) >>= fun q => match q with | (Sum.inl (r, s)) => some (r, s) | (Sum.inr (t, u)) => aW b c t u (aj (a + 1))) else some (d, e)))
  partial_fixpoint
def cV (a1 : aX) (a : ak) (d : List ak) : Option (ai) :=
  (if (0 : Int) ≤ 0 ∧ 0 < (a.slices.length : Int) then (aW a d ([] : List ac) 0 0 >>= fun (b, c) => ((if 0 < (b.length : Int) then (bj a >>= fun e => (dB a.notes >>= fun f => some (decide ((aj (c + e)) ≤ (aj (a1.Paper.Height - f)))))) else some false) >>= fun g => (if g = true then (if (0 : Int) ≤ 0 ∧ 0 < (b.length : Int) then (ce (⟨a1, ([] : List ac), ([] : List ac), ([0] : List Int)⟩ : ai) b ((b.getD (Int.toNat 0) aa).Y) 0 >>= fun h => (bk h a c >>= fun i => some i)) else none) else (bk (⟨a1, ([] : List ac), ([] : List ac), ([0] : List Int)⟩ : ai) a 0 >>= fun j => some j)))) else none)
def bB {σ : Type} (φ : σ → ak → Option (σ × Bool)) (a3 : List ac) (c : List Bool) (h : Bool) (a : Int) (b : List ac) (d : List ac) (e : Int) (f : σ) : Option (Sum ((List ac) × (List ac) × Int × σ) ((List ac) × (List ac) × Int × σ)) :=
  (if a < (a3.length : Int) then ((if (0 : Int) ≤ a ∧ a < (a3.length : Int) then (if ((a3.getD (Int.toNat a) aa).Note) = true then (if d.length + 1 ≤ 2199023255552 then some (Sum.inr (h, b, d ++ [(a3.getD (Int.toNat a) aa)], e, f)) else none) else ((if 0 < (b.length : Int) then some (decide (e ≤ ((a3.getD (Int.toNat a) aa).Y))) else some false) >>= fun i => ((if i = true then some (!h) else some false) >>= fun j => (if j = true then (φ f (⟨b, d, e⟩ : ak) >>= fun (g, k) => (if (!k) = true then some (Sum.inl g) else (if (([] : List ac).length : Int) = 0 then (if ([] : List ac).length + 1 ≤ 2199023255552 then (if (0 : Int) ≤ a ∧ a < (c.length : Int) then some (Sum.inr (c.getD (Int.toNat a) false, ([] : List ac) ++ [(a3.getD (Int.toNat a) aa)], ([] : List ac), max ((a3.getD (Int.toNat a) aa).Y) (aj (((a3.getD (Int.toNat a) aa).Y) + ((a3.getD (Int.toNat a) aa).H))), g)) else none) else none) else (if ([] : List ac).length + 1 ≤ 2199023255552 then (if (0 : Int) ≤ a ∧ a < (c.length : Int) then some (Sum.inr (c.getD (Int.toNat a) false, ([] : List ac) ++ [(a3.getD (Int.toNat a) aa)], ([] : List ac), max 0 (aj (((a3.getD (Int.toNat a) aa).Y) + ((a3.getD (Int.toNat a) aa).H))), g)) else none) else none)))) else (if (b.length : Int) = 0 then (if b.length + 1 ≤ 2199023255552 then (if (0 : Int) ≤ a ∧ a < (c.length : Int) then some (Sum.inr (c.getD (Int.toNat a) false, b ++ [(a3.getD (Int.toNat a) aa)], d, max ((a3.getD (Int.toNat a) aa).Y) (aj (((a3.getD (Int.toNat a) aa).Y) + ((a3.getD (Int.toNat a) aa).H))), f)) else none) else none) else (if b.length + 1 ≤ 2199023255552 then (if (0 : Int) ≤ a ∧ a < (c.length : Int) then some (Sum.inr (c.getD (Int.toNat a) false, b ++ [(a3.getD (Int.toNat a) aa)], d, max e (aj (((a3.getD (Int.toNat a) aa).Y) + ((a3.getD (Int.toNat a) aa).H))), f)) else none) else none)))))) else none) >>= fun l => match l with | (Sum.inl m) => some (Sum.inl (b, d, e, m)) | (Sum.inr (n, o, p, q, r)) => bB φ a3 c n (aj (a + 1)) o p q r) else some (Sum.inr (b, d, e, f)))
  partial_fixpoint
def lu := @bB.partial_correctness
def dl {σ : Type} (φ : σ → ak → Option (σ × Bool)) (sy : σ) (a3 : List ac) (d : List Bool) : Option (σ) :=
  (bB φ a3 d false 0 ([] : List ac) ([] : List ac) 0 sy >>= fun e => match e with | (Sum.inl (i, j, k, f)) => some f | (Sum.inr (a, b, g, c)) => (if 0 < (aj ((a.length : Int) + (b.length : Int))) then (φ c (⟨a, b, g⟩ : ak) >>= fun (h, l) => some h) else some c))
def aZ (a3 : ai) (b : Int) (a : Int) : Option (Int) :=
  (if a < (a3.fills.length : Int) then (if (0 : Int) ≤ a ∧ a < (a3.fills.length : Int) then aZ a3 (max b (a3.fills.getD (Int.toNat a) (0 : Int))) (aj (a + 1)) else none) else some b)
  partial_fixpoint
def b7 (a3 : ai) : Option (Int) :=
  (aZ a3 0 0 >>= fun a => some a)
def cq (a3 : ai) (c : ak) (f : Int) : Option (Bool × ai) :=
  (dB a3.notes >>= fun d => (dB c.notes >>= fun e => (if (0 : Int) ≤ aj ((a3.fills.length : Int) - 1) ∧ aj ((a3.fills.length : Int) - 1) < (a3.fills.length : Int) then ((b7 a3 >>= fun g => (if (aj ((aj (a3.sheet.Paper.Height - d)) - e)) < g then some (Sum.inr ()) else (bj c >>= fun h => (if (aj ((aj ((a3.fills.getD (Int.toNat (aj ((a3.fills.length : Int) - 1))) (0 : Int)) + f)) + h)) ≤ (aj ((aj (a3.sheet.Paper.Height - d)) - e)) then (bk a3 c (aj ((a3.fills.getD (Int.toNat (aj ((a3.fills.length : Int) - 1))) (0 : Int)) + f)) >>= fun a => some (Sum.inl (a.sheet.Paper.Width, a.sheet.Paper.Height, a.sheet.Paper.Columns, a.sheet.Paper.Gap, a.sheet.Paper.Scale, a.sheet.Paper.Lang, a.placed, a.notes, a.fills))) else ((if (a3.fills.length : Int) < a3.sheet.Paper.Columns then (bj c >>= fun i => some (decide (i ≤ (aj ((aj (a3.sheet.Paper.Height - d)) - e))))) else some false) >>= fun j => (if j = true then (if a3.fills.length + 1 ≤ 17592186044416 then (bk (⟨a3.sheet, a3.placed, a3.notes, a3.fills ++ [0]⟩ : ai) c 0 >>= fun b => some (Sum.inl (b.sheet.Paper.Width, b.sheet.Paper.Height, b.sheet.Paper.Columns, b.sheet.Paper.Gap, b.sheet.Paper.Scale, b.sheet.Paper.Lang, b.placed, b.notes, b.fills))) else none) else some (Sum.inr ()))))))) >>= fun k => match k with | (Sum.inl (l, m, n, o, p, q, r, s, t)) => some (true, (⟨(⟨(⟨l, m, n, o, p, q⟩ : ax)⟩ : aX), r, s, t⟩ : ai)) | (Sum.inr _) => some (false, a3)) else none)))
def aS (a3 : ai) (c : Int) (a : Int) (b : List ac) : Option ((List ac)) :=
  (if a < (a3.notes.length : Int) then (if (0 : Int) ≤ a ∧ a < (a3.notes.length : Int) then (if b.length + 1 ≤ 2199023255552 then aS a3 (aj (c + ((a3.notes.getD (Int.toNat a) aa).H))) (aj (a + 1)) (b ++ [(⟨(a3.notes.getD (Int.toNat a) aa).Node, (a3.notes.getD (Int.toNat a) aa).Table, (a3.notes.getD (Int.toNat a) aa).X, c, (a3.notes.getD (Int.toNat a) aa).H, (a3.notes.getD (Int.toNat a) aa).Text, (a3.notes.getD (Int.toNat a) aa).Head, (a3.notes.getD (Int.toNat a) aa).Note⟩ : ac)]) else none) else none) else some b)
  partial_fixpoint
def cc (a3 : ai) (a : Int) : Option (ap) :=
  (dB a3.notes >>= fun b => (b7 a3 >>= fun c => (aS a3 (max (aj (a3.sheet.Paper.Height - b)) c) 0 a3.placed >>= fun d => some (⟨a, d⟩ : ap))))
def cM (a3 : Option ai) (a : List ap) : Option ((List ap)) :=
  (match a3 with | none => some a | some b => (cc b (aj ((a.length : Int) + 1)) >>= fun c => (if a.length + 1 ≤ 4398046511104 then some (a ++ [c]) else none)))
def a9 (a3 : ai) (b : Int) (a : Int) : Option (Int) :=
  (if a < (a3.fills.length : Int) then (if (0 : Int) ≤ a ∧ a < (a3.fills.length : Int) then a9 a3 (max b (a3.fills.getD (Int.toNat a) (0 : Int))) (aj (a + 1)) else none) else some b)
  partial_fixpoint
def ct (a3 : ai) : Option (Int) :=
  (a9 a3 0 0 >>= fun a => some a)
def aT (a3 : ai) (c : Int) (a : Int) (b : List ac) : Option ((List ac)) :=
  (if a < (a3.notes.length : Int) then (if (0 : Int) ≤ a ∧ a < (a3.notes.length : Int) then (if b.length + 1 ≤ 2199023255552 then aT a3 (aj (c + ((a3.notes.getD (Int.toNat a) aa).H))) (aj (a + 1)) (b ++ [(⟨(a3.notes.getD (Int.toNat a) aa).Node, (a3.notes.getD (Int.toNat a) aa).Table, (a3.notes.getD (Int.toNat a) aa).X, c, (a3.notes.getD (Int.toNat a) aa).H, (a3.notes.getD (Int.toNat a) aa).Text, (a3.notes.getD (Int.toNat a) aa).Head, (a3.notes.getD (Int.toNat a) aa).Note⟩ : ac)]) else none) else none) else some b)
  partial_fixpoint
def cd (a3 : ai) (a : Int) : Option (ap) :=
  (dB a3.notes >>= fun b => (ct a3 >>= fun c => (aT a3 (max (aj (a3.sheet.Paper.Height - b)) c) 0 a3.placed >>= fun d => some (⟨a, d⟩ : ap))))
def ca (a3 : Option ai) (a : List ap) : Option ((List ap)) :=
  (match a3 with | none => some a | some b => (cd b (aj ((a.length : Int) + 1)) >>= fun c => (if a.length + 1 ≤ 4398046511104 then some (a ++ [c]) else none)))
def aU (a1 : ax) (e : Option ai) (f : Bool) (a : List ak) (c : List ap) (b : ak) : Option (((Option ai) × Bool × (List ak) × (List ap)) × Option Nat) :=
  (if (b.slices.length : Int) = 0 then some (((some (⟨(⟨a1⟩ : aX), ([] : List ac), b.notes, ([0] : List Int)⟩ : ai)), false, a, c), (some 0)) else ((match e with | none => some (true, (none : Option ai)) | some g => (if f = true then (cG b >>= fun h => (if (0 : Int) ≤ aj ((a.length : Int) - 1) ∧ aj ((a.length : Int) - 1) < (a.length : Int) then (cq g b (max 0 (aj (h - ((a.getD (Int.toNat (aj ((a.length : Int) - 1))) am).end_)))) >>= fun (i, j) => some (!i, (some j))) else none)) else none)) >>= fun (k, d) => (if k = true then (cM d c >>= fun l => (cV (⟨a1⟩ : aX) b a >>= fun m => (if a.length + 1 ≤ 2513169434916 then some (((some m), true, a ++ [b], l), none) else none))) else (if a.length + 1 ≤ 2513169434916 then some ((d, true, a ++ [b], c), none) else none))))
def cz (a1 : ax) (a : List ac) (a7 : List Bool) : Option ((List ap) × Int) :=
  (cH (⟨a1⟩ : aX) >>= fun f => ((if (!f) = true then some true else (dp a a7 >>= fun g => some (!g))) >>= fun h => (if h = true then some (([] : List ap), 1) else (gb a a7 >>= fun (i, j) => (dl (n3 (fun (u : (Option ai) × Bool × (List ak) × (List ap)) (x : ak) => aU a1 u.1 u.2.1 u.2.2.1 u.2.2.2 x)) (((none : Option ai), true, ([] : List ak), ([] : List ap)), none) i j >>= fun ((b, l, m, c), k) => match k with | none => (ca b c >>= fun d => (if 500 < (d.length : Int) then some (([] : List ap), 2) else some (d, 0))) | some 0 => (ca b c >>= fun e => (if 500 < (e.length : Int) then some (([] : List ap), 2) else some (e, 0))) | some _ => none)))))
def bU (a1 : Int) : Option (ax) :=
  some (⟨aj (300 * a1), 30, a1, 0, 100, 0⟩ : ax)
def b8 : Option ((List ac)) :=
  some ([(⟨1, 0, 0, 0, 10, (⟨#[]⟩ : ByteArray), false, false⟩ : ac), (⟨2, 0, 0, 12, 10, (⟨#[]⟩ : ByteArray), false, false⟩ : ac), (⟨3, 0, 0, 24, 10, (⟨#[]⟩ : ByteArray), false, false⟩ : ac), (⟨4, 0, 0, 36, 10, (⟨#[]⟩ : ByteArray), false, false⟩ : ac)] : List ac)
def e7 (a1 : ac) (a : Int) : Option (Bool) :=
  some (decide (a1.Node = a))
def bo (a1 : List ac) (b : Int) (a : Int) : Option (Sum Int Unit) :=
  (if a < (a1.length : Int) then (if (0 : Int) ≤ a ∧ a < (a1.length : Int) then (e7 (a1.getD (Int.toNat a) aa) b >>= fun c => (if c = true then some (Sum.inl a) else bo a1 b (aj (a + 1)))) else none) else some (Sum.inr ()))
  partial_fixpoint
def bM (a1 : List ac) (a : Int) : Option (Int) :=
  (bo a1 a 0 >>= fun b => match b with | (Sum.inl c) => some c | (Sum.inr _) => some (-1))
def bD (a1 : List ac) (a : Int) : Option (Bool) :=
  (bM a1 a >>= fun b => some (decide (0 ≤ b)))
def eH (a1 : List ap) (a6 : Int) (a : Int) : Option (Sum Int Unit) :=
  (if a < (a1.length : Int) then (if (0 : Int) ≤ a ∧ a < (a1.length : Int) then (bD ((a1.getD (Int.toNat a) av).Slices) a6 >>= fun b => (if b = true then some (Sum.inl ((a1.getD (Int.toNat a) av).Number)) else eH a1 a6 (aj (a + 1)))) else none) else some (Sum.inr ()))
  partial_fixpoint
def fY (a1 : List ap) (a6 : Int) : Option (Int × Bool) :=
  (eH a1 a6 0 >>= fun a => match a with | (Sum.inl b) => some (b, true) | (Sum.inr _) => some (0, false))
def cb (a1 : List ac) (a6 : List ac) (a : Int) : Option (Sum Unit Unit) :=
  (if a < (a1.length : Int) then (if (0 : Int) ≤ a ∧ a < (a1.length : Int) then (if (0 : Int) ≤ a ∧ a < (a6.length : Int) then (if ¬ (a1.getD (Int.toNat a) aa) = (a6.getD (Int.toNat a) aa) then some (Sum.inl ()) else cb a1 a6 (aj (a + 1))) else none) else none) else some (Sum.inr ()))
  partial_fixpoint
def cL (a1 : List ac) (a6 : List ac) : Option (Bool) :=
  (if ¬ (a1.length : Int) = (a6.length : Int) then some false else (cb a1 a6 0 >>= fun a => match a with | (Sum.inl _) => some false | (Sum.inr _) => some true))
def de (a1 : List ap) (a6 : List ap) (a : Int) : Option (Sum Unit Unit) :=
  (if a < (a1.length : Int) then ((if (0 : Int) ≤ a ∧ a < (a1.length : Int) then (if (0 : Int) ≤ a ∧ a < (a6.length : Int) then (if ¬ ((a1.getD (Int.toNat a) av).Number) = ((a6.getD (Int.toNat a) av).Number) then some true else (if (0 : Int) ≤ a ∧ a < (a1.length : Int) then (if (0 : Int) ≤ a ∧ a < (a6.length : Int) then (cL ((a1.getD (Int.toNat a) av).Slices) ((a6.getD (Int.toNat a) av).Slices) >>= fun b => some (!b)) else none) else none)) else none) else none) >>= fun c => (if c = true then some (Sum.inl ()) else de a1 a6 (aj (a + 1)))) else some (Sum.inr ()))
  partial_fixpoint
def da (a1 : List ap) (a6 : List ap) : Option (Bool) :=
  (if ¬ (a1.length : Int) = (a6.length : Int) then some false else (de a1 a6 0 >>= fun a => match a with | (Sum.inl _) => some false | (Sum.inr _) => some true))
def aJ (a1 : Int) (a : Int) (a3 : Int) : Option (ac) :=
  some (⟨a1, 0, a, a3, 10, (⟨#[]⟩ : ByteArray), false, false⟩ : ac)
def dD : Option (Bool) :=
  (bU 1 >>= fun b => (b8 >>= fun c => (if (0 : Int) ≤ 4 ∧ (1 : Int) * 4 ≤ 281474976710656 ∧ (4 : Int) ≤ 9223372036854775807 then (cz b c (List.replicate (Int.toNat 4) false) >>= fun (d, e) => (bU 1 >>= fun f => (b8 >>= fun g => (cz f g ([false, true, false, false] : List Bool) >>= fun (a, h) => (bU 2 >>= fun i => (b8 >>= fun j => (if (0 : Int) ≤ 4 ∧ (1 : Int) * 4 ≤ 281474976710656 ∧ (4 : Int) ≤ 9223372036854775807 then (cz i j (List.replicate (Int.toNat 4) false) >>= fun (k, l) => (bU 1 >>= fun m => (b8 >>= fun n => (cz m n ([] : List Bool) >>= fun (R, o) => (fY a 4 >>= fun (p, q) => (fY a 5 >>= fun (S, r) => ((if e = 0 then some (decide (h = 0)) else some false) >>= fun s => ((if s = true then some (decide (l = 0)) else some false) >>= fun t => ((if t = true then some (decide (o = 1)) else some false) >>= fun u => ((if u = true then some (decide (p = 3)) else some false) >>= fun v => ((if v = true then some q else some false) >>= fun w => ((if w = true then some (!r) else some false) >>= fun x => ((if x = true then (aJ 1 0 0 >>= fun y => (aJ 2 0 12 >>= fun A => (aJ 3 0 0 >>= fun B => (aJ 4 0 12 >>= fun C => (da d ([(⟨1, ([y, A] : List ac)⟩ : ap), (⟨2, ([B, C] : List ac)⟩ : ap)] : List ap) >>= fun D => some D))))) else some false) >>= fun E => ((if E = true then (aJ 1 0 0 >>= fun F => (aJ 2 0 0 >>= fun G => (aJ 3 0 12 >>= fun H => (aJ 4 0 0 >>= fun I => (da a ([(⟨1, ([F] : List ac)⟩ : ap), (⟨2, ([G, H] : List ac)⟩ : ap), (⟨3, ([I] : List ac)⟩ : ap)] : List ap) >>= fun J => some J))))) else some false) >>= fun K => ((if K = true then (aJ 1 0 0 >>= fun L => (aJ 2 0 12 >>= fun M => (aJ 3 300 0 >>= fun N => (aJ 4 300 12 >>= fun O => (da k ([(⟨1, ([L, M, N, O] : List ac)⟩ : ap)] : List ap) >>= fun P => some P))))) else some false) >>= fun Q => some Q))))))))))))))) else none))))))) else none)))
def cn (a1 : List ac) (a : Int) : Option (Sum Unit Unit) :=
  (if a < (a1.length : Int) then (if (0 : Int) ≤ a ∧ a < (a1.length : Int) then (if 200 < (((a1.getD (Int.toNat a) aa).Text).size : Int) then some (Sum.inl ()) else cn a1 (aj (a + 1))) else none) else some (Sum.inr ()))
  partial_fixpoint
def eJ (a1 : List ac) : Option (Bool) :=
  (cn a1 0 >>= fun a => match a with | (Sum.inl _) => some false | (Sum.inr _) => some (decide ((a1.length : Int) ≤ 60)))
def b9 (a1 : Int) (a : Int) (a3 : Int) : Option (Bool) :=
  ((if a ≤ a1 then some (decide (a1 ≤ a3)) else some false) >>= fun b => some b)
def dK (a1 : bP) : Option (Bool) :=
  ((if 0 ≤ a1.Lang then some (decide (a1.Lang < 4)) else some false) >>= fun a => ((if a = true then some (decide (50 ≤ a1.Scale)) else some false) >>= fun b => ((if b = true then some (decide (a1.Scale ≤ 300)) else some false) >>= fun c => ((if c = true then some (decide (200 ≤ a1.Width)) else some false) >>= fun d => ((if d = true then some (decide (a1.Width ≤ 4000)) else some false) >>= fun e => some e)))))
def dI (a1 : ax) : Option (Int) :=
  (if a1.Columns ≠ 0 then some (max 0 (aj (Int.tdiv (aj (a1.Width - (aj (a1.Gap * (aj (a1.Columns - 1)))))) a1.Columns))) else none)
def eC (a1 : ax) : Option (bP) :=
  (dI a1 >>= fun a => some (⟨a, a1.Scale, a1.Lang⟩ : bP))
def dX (a1 : ax) : Option (Bool) :=
  (b9 a1.Columns 1 8 >>= fun a => ((if (!a) = true then some true else (b9 a1.Gap 0 1000 >>= fun b => some (!b))) >>= fun c => ((if c = true then some true else (b9 a1.Width 1 100000 >>= fun d => some (!d))) >>= fun e => ((if e = true then some true else (b9 a1.Height 1 1000000 >>= fun f => some (!f))) >>= fun g => (if g = true then some false else (eC a1 >>= fun h => (dK h >>= fun i => some i)))))))
def dY (a1 : Int) : Option (Int) :=
  ((if 97 ≤ a1 then some (decide (a1 ≤ 122)) else some false) >>= fun a => (if a = true then some 1 else ((if 65 ≤ a1 then some (decide (a1 ≤ 90)) else some false) >>= fun b => (if b = true then some 2 else ((if 48 ≤ a1 then some (decide (a1 ≤ 57)) else some false) >>= fun c => (if c = true then some 3 else (if a1 = 32 then some 4 else (if a1 = 126 then some 6 else ((if 32 < a1 then some (decide (a1 < 126)) else some false) >>= fun d => (if d = true then some 5 else some 0))))))))))
def cy (a1 : ByteArray) (a : Int) : Option (Sum Unit Unit) :=
  (if a < (a1.size : Int) then (if (0 : Int) ≤ a ∧ a < (a1.size : Int) then (dY (bt a1 a) >>= fun y47 => (if y47 = 0 then some (Sum.inl ()) else cy a1 (aj (a + 1)))) else none) else some (Sum.inr ()))
  partial_fixpoint
def cQ (a1 : ByteArray) : Option (Bool) :=
  (cy a1 0 >>= fun a => match a with | (Sum.inl _) => some false | (Sum.inr _) => some (decide ((a1.size : Int) ≤ 2000)))
def dk (a1 : Int) : Option (Bool) :=
  (b9 a1 (-1000000000) 1000000000 >>= fun a => some a)
def bC (a1 : List ac) (a : Int) : Option (Sum Unit Unit) :=
  (if a < (a1.length : Int) then (if (0 : Int) ≤ a ∧ a < (a1.length : Int) then (cQ ((a1.getD (Int.toNat a) aa).Text) >>= fun b => ((if (!b) = true then some true else (b9 ((a1.getD (Int.toNat a) aa).Node) 1 1000000 >>= fun c => (if (!c) = true then some true else (b9 ((a1.getD (Int.toNat a) aa).Table) 0 1000000 >>= fun d => (if (!d) = true then some true else (dk ((a1.getD (Int.toNat a) aa).X) >>= fun e => (if (!e) = true then some true else (dk ((a1.getD (Int.toNat a) aa).Y) >>= fun f => (if (!f) = true then some true else (b9 ((a1.getD (Int.toNat a) aa).H) 0 1000000 >>= fun g => (if (!g) = true then some true else (if 0 < a then (if (0 : Int) ≤ aj (a - 1) ∧ aj (a - 1) < (a1.length : Int) then some (decide (((a1.getD (Int.toNat a) aa).Y) < ((a1.getD (Int.toNat (aj (a - 1))) aa).Y))) else none) else some false)))))))))))) >>= fun h => (if h = true then some (Sum.inl ()) else bC a1 (aj (a + 1))))) else none) else some (Sum.inr ()))
  partial_fixpoint
def d5 (a1 : List ac) (a6 : List Bool) : Option (Bool) :=
  (bC a1 0 >>= fun a => match a with | (Sum.inl _) => some false | (Sum.inr _) => ((if (a1.length : Int) ≤ 10000 then some (decide ((a6.length : Int) = (a1.length : Int))) else some false) >>= fun b => some b))
def dH (a1 : ax) (a : List ac) (a7 : List Bool) : Option (Bool) :=
  (eJ a >>= fun b => ((if b = true then (dX a1 >>= fun c => some c) else some false) >>= fun d => ((if d = true then (d5 a a7 >>= fun e => some e) else some false) >>= fun f => some f)))
def aE (a1 : List ac) (a6 : List Bool) (a : List ao) (f : List ac) (c : Int) : Option ((List ao) × (List ac)) :=
  (if c < (a1.length : Int) then ((if (0 : Int) ≤ c ∧ c < (a1.length : Int) then ((if ((a1.getD (Int.toNat c) aa).Note) = true then some (decide ((a.length : Int) = 0)) else some false) >>= fun i => (if i = true then (if f.length + 1 ≤ 2199023255552 then some (a, f ++ [(a1.getD (Int.toNat c) aa)]) else none) else (if ((a1.getD (Int.toNat c) aa).Note) = true then (if (0 : Int) ≤ aj ((a.length : Int) - 1) ∧ aj ((a.length : Int) - 1) < (a.length : Int) then (if ((a.getD (Int.toNat (aj ((a.length : Int) - 1))) ab).Notes).length + 1 ≤ 2199023255552 then (if (0 : Int) ≤ aj ((a.length : Int) - 1) ∧ aj ((a.length : Int) - 1) < (a.length : Int) then (some (List.set a (Int.toNat (aj ((a.length : Int) - 1))) (⟨(a.getD (Int.toNat (aj ((a.length : Int) - 1))) ab).Slices, ((a.getD (Int.toNat (aj ((a.length : Int) - 1))) ab).Notes) ++ [(a1.getD (Int.toNat c) aa)], (a.getD (Int.toNat (aj ((a.length : Int) - 1))) ab).End, (a.getD (Int.toNat (aj ((a.length : Int) - 1))) ab).Kept⟩ : ao)) >>= fun j => some (j, f)) else none) else none) else none) else ((if (a.length : Int) = 0 then some true else (if (0 : Int) ≤ aj ((a.length : Int) - 1) ∧ aj ((a.length : Int) - 1) < (a.length : Int) then (if ((a.getD (Int.toNat (aj ((a.length : Int) - 1))) ab).End) ≤ ((a1.getD (Int.toNat c) aa).Y) then (if (0 : Int) ≤ aj ((a.length : Int) - 1) ∧ aj ((a.length : Int) - 1) < (a.length : Int) then some (!((a.getD (Int.toNat (aj ((a.length : Int) - 1))) ab).Kept)) else none) else some false) else none)) >>= fun k => (if k = true then (if a.length + 1 ≤ 2199023255552 then (some (a ++ [(⟨([] : List ac), f, aj (((a1.getD (Int.toNat c) aa).Y) + ((a1.getD (Int.toNat c) aa).H)), false⟩ : ao)]) >>= fun b => (if (0 : Int) ≤ aj ((b.length : Int) - 1) ∧ aj ((b.length : Int) - 1) < (b.length : Int) then (if ((b.getD (Int.toNat (aj ((b.length : Int) - 1))) ab).Slices).length + 1 ≤ 2199023255552 then (if (0 : Int) ≤ aj ((b.length : Int) - 1) ∧ aj ((b.length : Int) - 1) < (b.length : Int) then (some (List.set b (Int.toNat (aj ((b.length : Int) - 1))) (⟨((b.getD (Int.toNat (aj ((b.length : Int) - 1))) ab).Slices) ++ [(a1.getD (Int.toNat c) aa)], (b.getD (Int.toNat (aj ((b.length : Int) - 1))) ab).Notes, (b.getD (Int.toNat (aj ((b.length : Int) - 1))) ab).End, (b.getD (Int.toNat (aj ((b.length : Int) - 1))) ab).Kept⟩ : ao)) >>= fun d => (if (0 : Int) ≤ aj ((b.length : Int) - 1) ∧ aj ((b.length : Int) - 1) < (d.length : Int) then (if (0 : Int) ≤ aj ((b.length : Int) - 1) ∧ aj ((b.length : Int) - 1) < (d.length : Int) then (some (List.set d (Int.toNat (aj ((b.length : Int) - 1))) (⟨(d.getD (Int.toNat (aj ((b.length : Int) - 1))) ab).Slices, (d.getD (Int.toNat (aj ((b.length : Int) - 1))) ab).Notes, max ((d.getD (Int.toNat (aj ((b.length : Int) - 1))) ab).End) (aj (((a1.getD (Int.toNat c) aa).Y) + ((a1.getD (Int.toNat c) aa).H))), (d.getD (Int.toNat (aj ((b.length : Int) - 1))) ab).Kept⟩ : ao)) >>= fun g => (if (0 : Int) ≤ c ∧ c < (a6.length : Int) then (if (0 : Int) ≤ aj ((b.length : Int) - 1) ∧ aj ((b.length : Int) - 1) < (g.length : Int) then some (List.set g (Int.toNat (aj ((b.length : Int) - 1))) (⟨(g.getD (Int.toNat (aj ((b.length : Int) - 1))) ab).Slices, (g.getD (Int.toNat (aj ((b.length : Int) - 1))) ab).Notes, (g.getD (Int.toNat (aj ((b.length : Int) - 1))) ab).End, a6.getD (Int.toNat c) false⟩ : ao), ([] : List ac)) else none) else none)) else none) else none)) else none) else none) else none)) else none) else (if (0 : Int) ≤ aj ((a.length : Int) - 1) ∧ aj ((a.length : Int) - 1) < (a.length : Int) then (if ((a.getD (Int.toNat (aj ((a.length : Int) - 1))) ab).Slices).length + 1 ≤ 2199023255552 then (if (0 : Int) ≤ aj ((a.length : Int) - 1) ∧ aj ((a.length : Int) - 1) < (a.length : Int) then (some (List.set a (Int.toNat (aj ((a.length : Int) - 1))) (⟨((a.getD (Int.toNat (aj ((a.length : Int) - 1))) ab).Slices) ++ [(a1.getD (Int.toNat c) aa)], (a.getD (Int.toNat (aj ((a.length : Int) - 1))) ab).Notes, (a.getD (Int.toNat (aj ((a.length : Int) - 1))) ab).End, (a.getD (Int.toNat (aj ((a.length : Int) - 1))) ab).Kept⟩ : ao)) >>= fun e => (if (0 : Int) ≤ aj ((a.length : Int) - 1) ∧ aj ((a.length : Int) - 1) < (e.length : Int) then (if (0 : Int) ≤ aj ((a.length : Int) - 1) ∧ aj ((a.length : Int) - 1) < (e.length : Int) then (some (List.set e (Int.toNat (aj ((a.length : Int) - 1))) (⟨(e.getD (Int.toNat (aj ((a.length : Int) - 1))) ab).Slices, (e.getD (Int.toNat (aj ((a.length : Int) - 1))) ab).Notes, max ((e.getD (Int.toNat (aj ((a.length : Int) - 1))) ab).End) (aj (((a1.getD (Int.toNat c) aa).Y) + ((a1.getD (Int.toNat c) aa).H))), (e.getD (Int.toNat (aj ((a.length : Int) - 1))) ab).Kept⟩ : ao)) >>= fun h => (if (0 : Int) ≤ c ∧ c < (a6.length : Int) then (if (0 : Int) ≤ aj ((a.length : Int) - 1) ∧ aj ((a.length : Int) - 1) < (h.length : Int) then some (List.set h (Int.toNat (aj ((a.length : Int) - 1))) (⟨(h.getD (Int.toNat (aj ((a.length : Int) - 1))) ab).Slices, (h.getD (Int.toNat (aj ((a.length : Int) - 1))) ab).Notes, (h.getD (Int.toNat (aj ((a.length : Int) - 1))) ab).End, a6.getD (Int.toNat c) false⟩ : ao), f) else none) else none)) else none) else none)) else none) else none) else none)))))) else none) >>= fun (l, m) => aE a1 a6 l m (aj (c + 1))) else some (a, f))
  partial_fixpoint
def dV (a1 : List ac) (a6 : List Bool) : Option ((List ao) × (List ac)) :=
  (aE a1 a6 ([] : List ao) ([] : List ac) 0 >>= fun (a, b) => some (a, b))
def bq (b : List ao) (c : Int) (d : Int) (a : Int) : Option (Int) :=
  (if a < (((b.getD (Int.toNat c) ab).Notes).length : Int) then (if (0 : Int) ≤ a ∧ a < (((b.getD (Int.toNat c) ab).Notes).length : Int) then bq b c (aj (d + ((((b.getD (Int.toNat c) ab).Notes).getD (Int.toNat a) aa).H))) (aj (a + 1)) else none) else some d)
  partial_fixpoint
def bp (b : List ao) (c : Int) (a : Int) : Option (Int) :=
  (if a < (b.length : Int) then (if (0 : Int) ≤ a ∧ a < (b.length : Int) then (if (0 : Int) ≤ 0 ∧ 0 < (((b.getD (Int.toNat a) ab).Slices).length : Int) then (bq b a (aj (((b.getD (Int.toNat a) ab).End) - ((((b.getD (Int.toNat a) ab).Slices).getD (Int.toNat 0) aa).Y))) 0 >>= fun d => bp b (max c d) (aj (a + 1))) else none) else none) else some c)
  partial_fixpoint
def bv (b : List ac) (c : Int) (a : Int) : Option (Int) :=
  (if a < (b.length : Int) then (if (0 : Int) ≤ a ∧ a < (b.length : Int) then bv b (min c ((b.getD (Int.toNat a) aa).X)) (aj (a + 1)) else none) else some c)
  partial_fixpoint
def bu (a1 : ax) (y47 : List ap) (c : List ao) (d : Int) (e : Int) (b : Int) (f : Bool) (a : Int) : Option (Bool) :=
  (if a < (((y47.getD (Int.toNat b) av).Slices).length : Int) then (if (0 : Int) ≤ a ∧ a < (((y47.getD (Int.toNat b) av).Slices).length : Int) then ((if f = true then some (decide (0 ≤ ((((y47.getD (Int.toNat b) av).Slices).getD (Int.toNat a) aa).Y))) else some false) >>= fun g => ((if g = true then some (decide (e ≤ ((((y47.getD (Int.toNat b) av).Slices).getD (Int.toNat a) aa).X))) else some false) >>= fun h => ((if h = true then ((if (aj (((((y47.getD (Int.toNat b) av).Slices).getD (Int.toNat a) aa).Y) + ((((y47.getD (Int.toNat b) av).Slices).getD (Int.toNat a) aa).H))) ≤ a1.Height then some true else some (decide (a1.Height < d))) >>= fun i => ((if i = true then some true else some (decide ((c.length : Int) = 0))) >>= fun j => some j)) else some false) >>= fun k => bu a1 y47 c d e b k (aj (a + 1))))) else none) else some f)
  partial_fixpoint
def bw (a1 : ax) (y47 : List ap) (b : List ao) (c : Int) (d : Int) (e : Bool) (a : Int) : Option (Bool) :=
  (if a < (y47.length : Int) then (if (0 : Int) ≤ a ∧ a < (y47.length : Int) then (bu a1 y47 b c d a e 0 >>= fun f => bw a1 y47 b c d f (aj (a + 1))) else none) else some e)
  partial_fixpoint
def dF (a1 : ax) (a : List ac) (a7 : List Bool) : Option (Bool) :=
  (dD >>= fun b => (dH a1 a a7 >>= fun d => (if (!d) = true then some b else (cz a1 a a7 >>= fun (y47, e) => (if ¬ e = 0 then some false else (dV a a7 >>= fun (c, i) => (bp c 0 0 >>= fun f => (bv a 0 0 >>= fun g => (bw a1 y47 c f g b 0 >>= fun h => some h)))))))))
end Go.Proofs.Ytlcfemplcaejgaa.LG
