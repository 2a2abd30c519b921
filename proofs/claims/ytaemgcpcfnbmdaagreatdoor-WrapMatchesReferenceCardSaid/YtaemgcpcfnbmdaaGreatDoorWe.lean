/-
 Plain laws. No program in sight.
-/
import Derived.Test.YtaemgcpcfnbmdaaGreatDoorWd
import Derived.Test.YtaemgcpcfnbmdaaGreatDoorPe
set_option linter.unusedVariables false
set_option linter.unusedSimpArgs false
set_option maxRecDepth 100000
namespace Go.Proofs.YtaemgcpcfnbmdaaGreatDoor.LG
open Go Go.LG Go.Lib

theorem zl : ig = some true := qR (fu := 300) _ (by kernel_rfl)
theorem Dn (x : Ar) (hk : x.b.Keep.length ≤ 100000000000000) (hl : x.l.length ≤ 1000000) (hfl : x.fl.length ≤ 1000000) {v : Bool} (h2 : aL x.f = some v) (y : Int) :
  jk x.f x.b ⟨x.l.toArray⟩ x.sc x.lh x.al x.dir x.wd y x.fl = some (BM v x.b x.l x.sc && DA x y) := by
 unfold jk BM DA
 simp only [h2, uT x.b hk, fT x.l (show x.l.length ≤ 9223372036854775807 by omega), w5 x.fl x.wd hfl, aa]
 cases v
 ·simp
 ·cases vb x.b
  ·simp
  ·cases jm x.l
   ·simp
   ·by_cases c1 : x.sc < 50
    ·have : ¬ (50 ≤ x.sc ∧ x.sc ≤ 300) := by omega
     simp [c1, this]
    ·by_cases c2 : 300 < x.sc
     ·have : ¬ (50 ≤ x.sc ∧ x.sc ≤ 300) := by omega
      simp [c1, c2, this]
     ·have hs : 50 ≤ x.sc ∧ x.sc ≤ 300 := by omega
      cases vX x.fl x.wd
      ·simp [c1, c2]
      ·by_cases d1 : 0 ≤ x.lh
       ·by_cases d2 : x.lh ≤ 1000000
        ·by_cases d3 : 0 ≤ x.al
         ·by_cases d4 : x.al ≤ 2
          ·by_cases d5 : 0 ≤ x.dir
           ·by_cases d6 : x.dir ≤ 1
            ·by_cases d7 : 0 ≤ y
             ·by_cases d8 : y ≤ 1000000000 <;> simp [c1, c2, hs, d1, d2, d3, d4, d5, d6, d7, d8]
             ·simp [c1, c2, hs, d1, d2, d3, d4, d5, d6, d7]
            ·simp [c1, c2, hs, d1, d2, d3, d4, d5, d6]
           ·simp [c1, c2, hs, d1, d2, d3, d4, d5]
          ·simp [c1, c2, hs, d1, d2, d3, d4]
         ·simp [c1, c2, hs, d1, d2, d3]
        ·simp [c1, c2, hs, d1, d2]
       ·simp [c1, c2, hs, d1]
theorem Be (x : Ar) (hf : Sm x.f) (hk : x.b.Keep.length ≤ 100000000000000) (hl : x.l.length ≤ 100) (hfl : x.fl.length ≤ 1000000) {v : Bool} (h1 : aU x.f = some v) (h2 : aL x.f = some v) (hF : v = true → oG x.f) (y : Int) :
  gv x.f x.b ⟨x.l.toArray⟩ x.sc x.lh x.al x.dir x.wd y x.fl = some (x.ans v y) := by
 unfold gv
 rw [Dn x hk (by omega) hfl h2 y, aa]
 cases ha : (BM v x.b x.l x.sc && DA x y)
 ·have hc : x.code v y = 1 := by
   unfold Ar.code qO
   cases hr : DA x y
   ·rfl
   ·rw [hr, Bool.and_true] at ha
    rw [ha]; rfl
  unfold Ar.ans
  rw [hc]
  simp
 ·have hb := ha
  rw [Bool.and_eq_true] at hb
  have hrr := of_decide_eq_true hb.2
  have hw := (Bc hrr.2.1).1
  have ho := hrr.1
  have hcode : x.code v y = if vn x.f x.b x.l = true then 0 else 20 := by
   unfold Ar.code qO
   rw [hb.2, hb.1]; simp
  have hcq : qO v x.f x.b x.l x.sc = x.code v y := by unfold Ar.code; rw [hb.2, if_pos rfl]
  simp only [Bool.not_true, Bool.false_eq_true, if_false, sz]
  by_cases hn : x.l = []
  ·have hp : vn x.f x.b x.l = true := by rw [hn]; rfl
   rw [hp, if_pos rfl] at hcode
   obtain ⟨o, hy⟩ := x.ok_of hf hk hl h1 h2 hF hcode
   have hw0 : dG ⟨x.l.toArray⟩ = some (0, 0) := by
    rw [pX (by omega), oP ho, hn]; rfl
   have hA : x.allF (x.l.length + 1) 0 y = some ([], y) := by
    unfold Ar.allF
    rw [hn]; rfl
   have hy2 : ¬ 1000000000 < y := by omega
   have hL : dg x.f x.b ⟨x.l.toArray⟩ x.sc x.lh x.al x.dir x.wd x.fl [] 0 0 y = some (.inr ([], y)) := by
    rw [dg, if_neg (by decide)]
   unfold Ar.ans
   rw [if_neg (by rw [hn]; decide), hw0, aa, if_pos hcode, hA]
   simp only [hL, aa, hy2, if_false]
   rw [if_pos hy.2]
  ·have hp : 0 < x.l.length := List.length_pos_iff.2 hn
   obtain ⟨z, hz0⟩ := uM x.f hf x.b x.l hk (by omega) hn h1 h2 hF x.sc hw
   obtain ⟨z', e', g1, g2⟩ := yx x.f hf x.b x.l hk (by omega) h1 h2 hF 0 x.sc x.wd
   have hz := g2.trans (g1.symm.trans hz0)
   rw [if_pos (by omega), hz, aa, hcq]
   unfold Ar.ans
   by_cases h0 : x.code v y = 0
   ·obtain ⟨o, hy⟩ := x.ok_of hf hk hl h1 h2 hF h0
    have hR := o.ref_all (x.l.length + 1) 0 y [] (by omega) (Nat.zero_le _) (Nat.le_refl _) hy.1 (by omega)
    have hR' : cp x.f x.b ⟨x.l.toArray⟩ x.sc x.lh x.al x.dir x.wd x.fl [] 0 ((wc false x.l : Nat) : Int) y = some (match x.allF (x.l.length + 1) 0 y with | none => .inl () | some (out, e) => .inr ([] ++ out, e)) := hR
    rw [h0]
    simp only [not_true_eq_false, if_false, pX (show x.l.length ≤ 1000000 by omega), oP ho, aa, hR', if_true]
    cases x.allF (x.l.length + 1) 0 y with
    | none => rfl
    | some r =>
     obtain ⟨out, e⟩ := r
     by_cases he : e ≤ 1000000000
     ·have : ¬ 1000000000 < e := by omega
      simp [he, this]
     ·have : 1000000000 < e := by omega
      simp [he, this]
   ·rw [if_pos h0, if_neg h0]
theorem wh (xs : List an) (hx : xs.length ≤ 1000000) : ∀ (n i : Nat), xs.length - i = n → cL xs xs (i : Int) = some (.inr ()) := by
 intro n
 induction n with
 | zero => intro i hn; rw [cL, if_neg (by omega)]
 | succ n ih =>
  intro i hn
  rw [cL, if_pos (by omega), if_pos ⟨by omega, by omega⟩, if_pos ⟨by omega, by omega⟩, if_neg (by simp), av (n := (i : Int) + 1) (by omega) (by omega), add1]
  exact ih (i + 1) (by omega)
theorem Du (xs : List an) (hx : xs.length ≤ 1000000) : ec xs xs = some true := by
 unfold ec
 have h : cL xs xs 0 = some (.inr ()) := wh xs hx _ 0 rfl
 rw [if_neg (by simp), h]
 rfl
theorem Ei (f : ai) (l : List UInt8) (fl : List ab) : ∃ r, j1 f ⟨l.toArray⟩ fl = some r ∧ (r = true → f.Glyphs.length ≤ 100 ∧ f.Kerns.length ≤ 210 ∧ l.length ≤ 80 ∧ fl.length ≤ 20) := by
 unfold j1 ls
 rw [sz]
 by_cases c1 : (f.Glyphs.length : Int) ≤ 100
 ·by_cases c2 : (f.Kerns.length : Int) ≤ 210
  ·by_cases c3 : (l.length : Int) ≤ 80
   ·by_cases c4 : (fl.length : Int) ≤ 20
    ·exact ⟨true, by simp [c1, c2, c3, c4], fun _ => ⟨by omega, by omega, by omega, by omega⟩⟩
    ·exact ⟨false, by simp [c1, c2, c3, c4], fun h => by cases h⟩
   ·exact ⟨false, by simp [c1, c2, c3], fun h => by cases h⟩
  ·exact ⟨false, by simp [c1, c2], fun h => by cases h⟩
 ·exact ⟨false, by simp [c1], fun h => by cases h⟩
theorem Bf (x : Ar) : ∀ (n a : Nat) (y : Int) (r : List an × Int), x.allF n a y = some r → r.1.length ≤ n := by
 intro n
 induction n with
 | zero => intro a y r h; unfold Ar.allF at h; cases h; exact Nat.le_refl _
 | succ n ih =>
  intro a y r h
  unfold Ar.allF at h
  by_cases hw : wc false (x.l.drop a) = 0
  ·rw [if_pos hw] at h; cases h; exact Nat.zero_le _
  ·rw [if_neg hw] at h
   cases hs : x.setW a y with
   | none => rw [hs] at h; cases h
   | some y' =>
    rw [hs] at h
    cases hr : x.allF n (x.nx a y').1 (y' + x.lh) with
    | none => simp only [hr] at h; cases h
    | some r' =>
     simp only [hr] at h
     cases h
     have := ih _ _ _ hr
     simp only [List.length_cons]
     omega
theorem Ck (x : Ar) (v : Bool) (y : Int) : (x.ans v y).1.length ≤ x.l.length + 1 := by
 unfold Ar.ans
 split
 ·cases h : x.allF (x.l.length + 1) 0 y with
  | none => exact Nat.zero_le _
  | some r =>
   have := Bf x _ _ _ _ h
   obtain ⟨out, e⟩ := r
   simp only
   split
   ·exact this
   ·exact Nat.zero_le _
 ·exact Nat.zero_le _
def xk (f : ai) (b : ak) (l : List UInt8) (x : eX) (fl : List ab) : Ar := ⟨f, b, l, x.Scale, x.Line, x.Align, x.Dir, x.Width, fl⟩
theorem BZ (f : ai) (b : ak) (l : List UInt8) (x : eX) (fl : List ab) (hf : Sm f) (hk : b.Keep.length ≤ 100000000000000) (hl : l.length ≤ 100) (hfl : fl.length ≤ 1000000) {v : Bool} (h1 : aU f = some v) (h2 : aL f = some v) (hF : v = true → oG f) :
  iW f b ⟨l.toArray⟩ x fl = some ((xk f b l x fl).ans v x.Y) := by
 have h := BN (xk f b l x fl) hf hk hl hfl h1 h2 hF x.Y
 have h' : fC f b ⟨l.toArray⟩ x.Scale x.Line x.Align x.Dir x.Width x.Y fl = some ((xk f b l x fl).ans v x.Y) := h
 unfold iW
 rw [h']; rfl
theorem vG (f : ai) (b : ak) (s : ByteArray) (x : eX) (fl : List ab) (hk1 : b.Keep.length * 16 ≤ 140737488351232) : dr f b s x fl = some true := by
 have hk2 : b.Keep.length ≤ 100000000000000 := by omega
 obtain ⟨l, rfl⟩ : ∃ l : List UInt8, s = ⟨l.toArray⟩ := ⟨s.data.toList, (Lib.mk_data s).symm⟩
 obtain ⟨r, hr, hR⟩ := Ei f l fl
 unfold dr
 rw [zl, aa, hr, aa]
 cases r
 ·rfl
 ·obtain ⟨k1, k2, k3, k4⟩ := hR rfl
  have hf : Sm f := ⟨by omega, by omega⟩
  obtain ⟨v, hv, hv2, hF⟩ := yY f hf
  have hP := BZ f b l x fl hf hk2 (by omega) (by omega) hv hv2 hF
  have hQ := Be (xk f b l x fl) hf hk2 (show l.length ≤ 100 by omega) (show fl.length ≤ 1000000 by omega) hv hv2 hF x.Y
  have hQ' : gv f b ⟨l.toArray⟩ x.Scale x.Line x.Align x.Dir x.Width x.Y fl = some ((xk f b l x fl).ans v x.Y) := hQ
  have hlen := Ck (xk f b l x fl) v x.Y
  have hl' : (xk f b l x fl).l.length ≤ 80 := k3
  rw [hP, hQ']
  simp only [Bool.not_true, Bool.false_eq_true, if_false, aa, if_true, Du _ (show ((xk f b l x fl).ans v x.Y).1.length ≤ 1000000 by omega), decide_true]
end Go.Proofs.YtaemgcpcfnbmdaaGreatDoor.LG
