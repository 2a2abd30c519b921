/-
 Plain laws. No program in sight.
-/
import Derived.Test.YtaemgcpcfnbmdaaGreatDoorWa
import Derived.Test.YtaemgcpcfnbmdaaGreatDoorPe
set_option linter.unusedVariables false
set_option linter.unusedSimpArgs false
set_option maxRecDepth 100000
namespace Go.Proofs.YtaemgcpcfnbmdaaGreatDoor.LG
open Go Go.LG Go.Lib

def ends' (fl : List api_Float) (y h : Int) : List Int := (fl.filter fun z => bes z y h).map fun z => z.Y + z.H
theorem ends_in {fl : List api_Float} {y h e : Int} (hm : e ∈ ends' fl y h) : ∃ z ∈ fl, bes z y h = true ∧ z.Y + z.H = e := by
 unfold ends' at hm
 simp only [List.mem_map, List.mem_filter] at hm
 obtain ⟨z, ⟨h1, h2⟩, h3⟩ := hm
 exact ⟨z, h1, h2, h3⟩
theorem bes_gt {z : api_Float} {y h : Int} (hb : bes z y h = true) : 0 < z.H ∧ z.Y < y + max h 1 ∧ y < z.Y + z.H := of_decide_eq_true hb
theorem ends_cons (z : api_Float) (fl : List api_Float) (y h : Int) : ends' (z :: fl) y h = if bes z y h = true then (z.Y + z.H) :: ends' fl y h else ends' fl y h := by
 unfold ends'
 rw [List.filter_cons]
 split <;> rfl
theorem ends_loop (x : wrap_setter) {fl : List api_Float} (hfl : x.l = fl) (hl : fl.length ≤ 1000000) (hz : fl.all fwf = true) {y : Int} (hy : 0 ≤ y ∧ y ≤ 2000000000) (hh : 0 ≤ x.line ∧ x.line ≤ 1000000) : ∀ (n i : Nat) (acc : List Int), fl.length - i = n → i ≤ fl.length → acc.length ≤ i →
  wrap_setter_heights_1_k1_l112 x y x acc (i : Int) = some (acc ++ ends' (fl.drop i) y x.line) := by
 intro n
 induction n with
 | zero =>
  intro i acc hn hi ha
  rw [wrap_setter_heights_1_k1_l112, hfl, if_neg (by omega), List.drop_eq_nil_of_le (by omega)]
  simp [ends']
 | succ n ih =>
  intro i acc hn hi ha
  have hlt : i < fl.length := by omega
  have hzi := List.all_eq_true.1 hz _ (List.getElem_mem hlt)
  have b : (0 : Int) ≤ (i : Int) ∧ (i : Int) < (fl.length : Int) := ⟨by omega, by omega⟩
  have := fwf_open hzi
  rw [wrap_setter_heights_1_k1_l112, hfl, if_pos b.2, w64_id (n := (i : Int) + 1) (by omega) (by omega), add1, List.drop_eq_getElem_cons hlt, ends_cons]
  simp only [if_pos b, getD_at2 _ _ hlt, bes3 hzi hy x hh, some_bind]
  cases bes fl[i] y x.line
  ·simp only [Bool.false_eq_true, if_false, some_bind]
   exact ih (i + 1) acc (by omega) (by omega) (by omega)
  ·simp only [if_true]
   rw [if_pos (by omega), some_bind, w64_id (n := fl[i].Y + fl[i].H) (by omega) (by omega), ih (i + 1) _ (by omega) (by omega) (by simp; omega), List.append_assoc]
   rfl
def mn : List Int → Int
 | [] => 0
 | a :: l => l.foldl min a
theorem foldl_min (l : List Int) : ∀ a : Int, (∀ x ∈ l, l.foldl min a ≤ x) ∧ l.foldl min a ≤ a ∧ (l.foldl min a = a ∨ l.foldl min a ∈ l) := by
 induction l with
 | nil => intro a; exact ⟨fun x h => (by cases h), Int.le_refl _, .inl rfl⟩
 | cons b l ih =>
  intro a
  obtain ⟨h1, h2, h3⟩ := ih (min a b)
  rw [List.foldl_cons]
  refine ⟨fun x hx => ?_, by omega, ?_⟩
  ·rcases List.mem_cons.1 hx with rfl | hx
   ·omega
   ·exact h1 x hx
  ·rcases h3 with h3 | h3
   ·rw [h3]
    rcases Int.le_total a b with h | h
    ·exact .inl (Int.min_eq_left h)
    ·exact .inr (by rw [Int.min_eq_right h]; exact List.mem_cons_self ..)
   ·exact .inr (List.mem_cons_of_mem _ h3)
theorem mn_mem {l : List Int} (h : l ≠ []) : mn l ∈ l := by
 cases l with
 | nil => exact absurd rfl h
 | cons a l =>
  show l.foldl min a ∈ a :: l
  rcases (foldl_min l a).2.2 with h | h
  ·rw [h]; exact List.mem_cons_self ..
  ·exact List.mem_cons_of_mem _ h
theorem min_loop (l : List Int) (hl : l.length ≤ 1000000) : ∀ (n i : Nat) (m : Int), l.length - i = n → i ≤ l.length → slices_Min_int_l38 l m (i : Int) = some ((l.drop i).foldl min m) := by
 intro n
 induction n with
 | zero =>
  intro i m hn hi
  rw [slices_Min_int_l38, if_neg (by omega), List.drop_eq_nil_of_le (by omega)]
  rfl
 | succ n ih =>
  intro i m hn hi
  have hlt : i < l.length := by omega
  rw [slices_Min_int_l38, if_pos (by omega), if_pos ⟨by omega, by omega⟩, w64_id (n := (i : Int) + 1) (by omega) (by omega), add1, ih (i + 1) _ (by omega) (by omega), List.drop_eq_getElem_cons hlt, getD_at2 _ _ hlt]
  rfl
theorem min_mk {l : List Int} (hl : l.length ≤ 1000000) (h : l ≠ []) : slices_Min_int l = some (mn l) := by
 have hp : 0 < l.length := List.length_pos_iff.2 h
 have h1 : slices_Min_int_l38 l (l.getD (Int.toNat 0) 0) 1 = some ((l.drop 1).foldl min (l.getD (Int.toNat 0) 0)) := min_loop l hl _ 1 _ rfl (by omega)
 unfold slices_Min_int
 rw [if_neg (by omega), if_pos ⟨by omega, by omega⟩, h1]
 cases l with
 | nil => exact absurd rfl h
 | cons a l => rfl
def mu (fl : List api_Float) (y : Int) : Nat := fl.countP fun z => decide (y < z.Y + z.H)
theorem countP_lt {α : Type} {p q : α → Bool} : ∀ {l : List α}, (∀ x ∈ l, p x = true → q x = true) → (∃ x ∈ l, q x = true ∧ p x = false) → l.countP p < l.countP q
 | [], _, ⟨x, hx, _⟩ => by cases hx
 | a :: l, h, ⟨x, hx, hq, hp⟩ => by
  have hle : l.countP p ≤ l.countP q := List.countP_mono_left fun x hx => h x (List.mem_cons_of_mem _ hx)
  rw [List.countP_cons, List.countP_cons]
  rcases List.mem_cons.1 hx with rfl | hx
  ·rw [hq, hp]; simp; omega
  ·have := countP_lt (fun x hx => h x (List.mem_cons_of_mem _ hx)) ⟨x, hx, hq, hp⟩
   have ha := h a (List.mem_cons_self ..)
   cases e : p a
   ·simp; split <;> omega
   ·rw [ha e]; simp; omega
theorem mu_lt {fl : List api_Float} {y h : Int} (he : ends' fl y h ≠ []) : mu fl (mn (ends' fl y h)) < mu fl y ∧ y < mn (ends' fl y h) := by
 obtain ⟨z, hz, hb, e⟩ := ends_in (mn_mem he)
 have hg := bes_gt hb
 refine ⟨countP_lt (fun x _ hx => ?_) ⟨z, hz, ?_, ?_⟩, by omega⟩
 ·have := of_decide_eq_true hx
  exact decide_eq_true (by omega)
 ·exact decide_eq_true (by omega)
 ·exact decide_eq_false (by omega)
end Go.Proofs.YtaemgcpcfnbmdaaGreatDoor.LG
namespace Go.Proofs.YtaemgcpcfnbmdaaGreatDoor.LG
open Go Go.LG Go.Lib

structure Ar where
 f : api_Font
 b : api_Breaks
 l : List UInt8
 sc : Int
 lh : Int
 al : Int
 dir : Int
 wd : Int
 fl : List api_Float
def Ar.st (x : Ar) : wrap_setter := ⟨x.f, x.b, ⟨x.l.toArray⟩, x.sc, x.lh, x.al, x.dir, x.wd, x.fl⟩
structure Ar.Ok (x : Ar) : Prop where
 hf : Sm x.f
 v : font_Valid x.f = some true
 rv : formeref07_Valid x.f = some true
 F : Fok x.f
 hk : x.b.Keep.length ≤ 100000000000000
 vb : vb x.b = true
 ho : okS x.l = true
 hl : x.l.length ≤ 100
 sc : 50 ≤ x.sc ∧ x.sc ≤ 300
 lh : 0 ≤ x.lh ∧ x.lh ≤ 1000000
 al : 0 ≤ x.al ∧ x.al ≤ 2
 dir : 0 ≤ x.dir ∧ x.dir ≤ 1
 fv : vfl x.fl x.wd = true
 p : okP x.f x.b x.l = true
def Ar.lo (x : Ar) (y : Int) : Int := (rm x.fl x.wd y x.lh).Lo
def Ar.hi (x : Ar) (y : Int) : Int := (rm x.fl x.wd y x.lh).Hi
def Ar.sp (x : Ar) (y : Int) : Int := x.hi y - x.lo y
def Ar.nx (x : Ar) (a : Nat) (y : Int) : Nat × Bool := nxl x.f x.b x.l x.sc a (x.sp y)
def Ar.w (x : Ar) (a : Nat) (y : Int) : Int := W x.f x.l x.sc a (x.nx a y)
def Ar.en (x : Ar) (y : Int) : List Int := ends' x.fl y x.lh
def Ar.setW (x : Ar) (a : Nat) (y : Int) : Option Int :=
 if 1000000000 < y then none
 else if h : x.sp y < x.w a y ∧ x.en y ≠ [] then x.setW a (mn (x.en y)) else some y
termination_by mu x.fl y
decreasing_by exact (mu_lt h.2).1
theorem Ar.Ok.fls {x : Ar} (o : x.Ok) : x.fl.length ≤ 200 ∧ x.fl.all fwf = true := by
 have hv := o.fv
 unfold vfl at hv
 rw [Bool.and_eq_true, Bool.and_eq_true] at hv
 exact ⟨of_decide_eq_true hv.1.2, hv.2⟩
theorem Ar.Ok.room {x : Ar} (o : x.Ok) (y : Int) : 0 ≤ x.lo y ∧ x.lo y ≤ x.hi y ∧ x.hi y ≤ 2000000 ∧ 0 ≤ x.sp y ∧ x.sp y ≤ 2000000 := by
 have := rm_ok o.fv y x.lh
 unfold Ar.sp Ar.lo Ar.hi
 omega
theorem Ar.Ok.en_le {x : Ar} (o : x.Ok) {y : Int} (he : x.en y ≠ []) : y < mn (x.en y) ∧ mn (x.en y) ≤ 1001000000 := by
 obtain ⟨z, hz, hb, e⟩ := ends_in (mn_mem he)
 have := fwf_open (List.all_eq_true.1 o.fls.2 z hz)
 exact ⟨(mu_lt he).2, by unfold Ar.en; omega⟩
theorem Ar.Ok.next {x : Ar} (o : x.Ok) {a : Nat} (ha : a < x.l.length) (y : Int) :
  inline_Next x.f x.b ⟨x.l.toArray⟩ (a : Int) x.sc (x.sp y) = some (ln x.f x.l x.sc a (x.nx a y), 0) := by
 have hl := o.hl
 have hr := o.room y
 have e1 : w64 ((x.l.length : Int) - 1) = (x.l.length : Int) - 1 := w64_id (by omega) (by omega)
 have hx := (next_at x.f o.hf x.b x.l (by omega) x.sc ha (x.sp y)).1
 have ha' : (0 : Int) ≤ (a : Int) ∧ (a : Int) ≤ (x.l.length : Int) - 1 := ⟨by omega, by omega⟩
 have hr' : 0 ≤ x.sp y ∧ x.sp y ≤ 1000000000 := ⟨hr.2.2.2.1, by omega⟩
 unfold inline_Next
 rw [sz, e1, within_mk, within_mk, some_bind, prepare_v x.f o.hf o.F o.v x.b x.l o.hk (by omega) o.vb o.ho x.sc o.sc, o.p]
 simp only [ha', hr', and_self, decide_true, Bool.not_true, Bool.false_eq_true, if_false, some_bind, if_true, hx]
 rfl
theorem Ar.Ok.nx_ok {x : Ar} (o : x.Ok) {a : Nat} (ha : a < x.l.length) (y : Int) : x.nx a y ∈ ends x.b x.l ∧ a < (x.nx a y).1 ∧ (x.nx a y).1 ≤ x.l.length :=
 (next_at x.f o.hf x.b x.l (by have := o.hl; omega) x.sc ha (x.sp y)).2
def Ar.pl (x : Ar) (a : Nat) (y : Int) : ByteArray × Int × Int := (inline_Place x.f ⟨x.l.toArray⟩ (ln x.f x.l x.sc a (x.nx a y)) x.sc (x.sp y) x.al x.dir).getD (⟨#[]⟩, 0, 0)
theorem Ar.Ok.pl_mk {x : Ar} (o : x.Ok) {a : Nat} (ha : a < x.l.length) (y : Int) : ∃ t : List UInt8, x.pl a y = (⟨t.toArray⟩, atI (x.sp y) (x.w a y) x.al x.dir, 0) ∧ t.Perm (part x.l a (x.nx a y).1 (x.nx a y).2) ∧ inline_Place x.f ⟨x.l.toArray⟩ (ln x.f x.l x.sc a (x.nx a y)) x.sc (x.sp y) x.al x.dir = some (x.pl a y) := by
 have hr := o.room y
 obtain ⟨hm, hgt, hle⟩ := o.nx_ok ha y
 obtain ⟨t, ht, hp⟩ := place_mk x.f o.hf o.F o.v x.b x.l o.hl o.ho o.sc o.p (room := x.sp y) ⟨hr.2.2.2.1, by omega⟩ hm hgt hle o.al o.dir
 refine ⟨t, ?_, hp, ?_⟩
 ·unfold Ar.pl
  rw [ht]; rfl
 ·unfold Ar.pl
  rw [ht]; rfl
theorem Ar.Ok.place {x : Ar} (o : x.Ok) {a : Nat} (ha : a < x.l.length) (y : Int) : inline_Place x.f ⟨x.l.toArray⟩ (ln x.f x.l x.sc a (x.nx a y)) x.sc (x.sp y) x.al x.dir = some (x.pl a y) := by
 obtain ⟨_, _, _, h⟩ := o.pl_mk ha y
 exact h
def Ar.seen (x : Ar) (a : Nat) (y : Int) : api_Seen := ⟨(x.pl a y).1, w64 (x.lo y + (x.pl a y).2.1), y, x.w a y, x.lh⟩
theorem Ar.setW_le (x : Ar) (a : Nat) : ∀ (n : Nat) (y y' : Int), mu x.fl y = n → x.setW a y = some y' → y ≤ y' ∧ y' ≤ 1000000000 := by
 intro n
 induction n using Nat.strongRecOn with
 | _ n ih =>
  intro y y' hn h
  rw [Ar.setW] at h
  by_cases c1 : 1000000000 < y
  ·rw [if_pos c1] at h; cases h
  ·rw [if_neg c1] at h
   by_cases c2 : x.sp y < x.w a y ∧ x.en y ≠ []
   ·rw [dif_pos c2] at h
    have hm := mu_lt c2.2
    have := ih _ (by rw [← hn]; exact hm.1) _ _ rfl h
    have hlt : y < mn (x.en y) := hm.2
    omega
   ·rw [dif_neg c2] at h
    cases h
    omega
theorem Ar.Ok.set_loop {x : Ar} (o : x.Ok) {a : Nat} (ha : a < x.l.length) : ∀ (n : Nat) (y : Int), mu x.fl y = n → 0 ≤ y → y ≤ 2000000000 →
  ∃ yy, wrap_setter_heights_1_k1_l39 (rnd (fun (u : Bool × Int × ByteArray × Int × Int × Int × Int) (z : Int × Bool) => wrap_setter_set_r88 x.st (a : Int) u.1 u.2.1 u.2.2.1 u.2.2.2.1 u.2.2.2.2.1 u.2.2.2.2.2.1 u.2.2.2.2.2.2 z.1 z.2)) x.st y ((false, 0, (⟨#[]⟩ : ByteArray), 0, 0, 0, 0), none) =
   some (yy, match x.setW a y with
    | none => ((false, 0, (⟨#[]⟩ : ByteArray), 0, 0, 0, 0), some 0)
    | some y' => ((true, ((x.nx a y').1 : Int), (x.seen a y').Text, (x.seen a y').X, (x.seen a y').Y, (x.seen a y').W, (x.seen a y').H), some 0)) := by
 intro n
 induction n using Nat.strongRecOn with
 | _ n ih =>
  intro y hn h0 h1
  have hl := o.hl
  have hy : 0 ≤ y ∧ y ≤ 2000000000 := ⟨h0, h1⟩
  have hfl := o.fls
  have hE : wrap_setter_heights_1_k1_l112 x.st y x.st [] 0 = some (x.en y) := ends_loop x.st (fl := x.fl) rfl (by omega) hfl.2 hy o.lh _ 0 [] rfl (Nat.zero_le _) (Nat.le_refl _)
  have hR := Room_mk x.fl x.wd o.fv hy o.lh
  have hr := o.room y
  have esp : w64 ((rm x.fl x.wd y x.lh).Hi - (rm x.fl x.wd y x.lh).Lo) = x.sp y := w64_id (by unfold Ar.sp Ar.hi Ar.lo at hr; omega) (by unfold Ar.sp Ar.hi Ar.lo at hr; omega)
  have hpos : decide (0 < ((x.en y).length : Int)) = decide (x.en y ≠ []) := by
   cases x.en y with
   | nil => rfl
   | cons e es => simp
  rw [wrap_setter_heights_1_k1_l39]
  unfold wrap_setter_beside
  simp only [some_bind, hE, hpos]
  rw [Ar.setW]
  by_cases c1 : 1000000000 < y
  ·have step : rnd (fun (u : Bool × Int × ByteArray × Int × Int × Int × Int) (z : Int × Bool) => wrap_setter_set_r88 x.st (a : Int) u.1 u.2.1 u.2.2.1 u.2.2.2.1 u.2.2.2.2.1 u.2.2.2.2.2.1 u.2.2.2.2.2.2 z.1 z.2) ((false, 0, (⟨#[]⟩ : ByteArray), 0, 0, 0, 0), none) (y, decide (x.en y ≠ [])) = some (((false, 0, (⟨#[]⟩ : ByteArray), 0, 0, 0, 0), some 0), false) := by
    unfold rnd wrap_setter_set_r88
    simp only [Ar.st, hR]
    rw [if_neg (by omega)]
    rfl
   rw [step, if_pos c1]
   simp only [some_bind, Bool.not_false, if_true]
   exact ⟨_, rfl⟩
  ·have hn' := o.next ha y
   have hp := o.place ha y
   rw [if_neg c1]
   by_cases c2 : x.sp y < x.w a y ∧ x.en y ≠ []
   ·have step : rnd (fun (u : Bool × Int × ByteArray × Int × Int × Int × Int) (z : Int × Bool) => wrap_setter_set_r88 x.st (a : Int) u.1 u.2.1 u.2.2.1 u.2.2.2.1 u.2.2.2.2.1 u.2.2.2.2.2.1 u.2.2.2.2.2.2 z.1 z.2) ((false, 0, (⟨#[]⟩ : ByteArray), 0, 0, 0, 0), none) (y, decide (x.en y ≠ [])) = some (((false, 0, (⟨#[]⟩ : ByteArray), 0, 0, 0, 0), none), true) := by
     unfold rnd wrap_setter_set_r88
     simp only [Ar.st, hR]
     rw [if_pos (by omega), some_bind]
     simp only [not_true_eq_false, if_false, esp, hn', some_bind]
     show ((((if x.sp y < x.w a y then some (decide (x.en y ≠ [])) else some false) >>= _) >>= _) : Option _) = _
     rw [if_pos c2.1, decide_eq_true c2.2]
     rfl
    have hne := c2.2
    have hlen : ¬ ((x.en y).length : Int) = 0 := by
     have := List.length_pos_iff.2 hne
     omega
    have hel : (x.en y).length ≤ 1000000 := by
     unfold Ar.en ends'
     rw [List.length_map]
     have := List.length_filter_le (fun z => bes z y x.lh) x.fl
     omega
    rw [step, dif_pos c2]
    simp only [some_bind, Bool.not_true, Bool.false_eq_true, if_false, hlen, decide_false, min_mk hel hne]
    have hle := o.en_le hne
    exact ih _ (by rw [← hn]; exact (mu_lt hne).1) (mn (x.en y)) rfl (by omega) (by omega)
   ·have step : rnd (fun (u : Bool × Int × ByteArray × Int × Int × Int × Int) (z : Int × Bool) => wrap_setter_set_r88 x.st (a : Int) u.1 u.2.1 u.2.2.1 u.2.2.2.1 u.2.2.2.2.1 u.2.2.2.2.2.1 u.2.2.2.2.2.2 z.1 z.2) ((false, 0, (⟨#[]⟩ : ByteArray), 0, 0, 0, 0), none) (y, decide (x.en y ≠ [])) = some (((true, ((x.nx a y).1 : Int), (x.seen a y).Text, (x.seen a y).X, (x.seen a y).Y, (x.seen a y).W, (x.seen a y).H), some 0), false) := by
     unfold rnd wrap_setter_set_r88
     simp only [Ar.st, hR]
     rw [if_pos (by omega), some_bind]
     simp only [not_true_eq_false, if_false, esp, hn', some_bind, hp]
     show ((((if x.sp y < x.w a y then some (decide (x.en y ≠ [])) else some false) >>= _) >>= _) : Option _) = _
     have hf : (if x.sp y < x.w a y then some (decide (x.en y ≠ [])) else some false) = some false := by
      by_cases c3 : x.sp y < x.w a y
      ·rw [if_pos c3, decide_eq_false fun h => c2 ⟨c3, h⟩]
      ·rw [if_neg c3]
     rw [hf]
     rfl
    rw [step, dif_neg c2]
    simp only [some_bind, Bool.not_false, if_true]
    exact ⟨_, rfl⟩
theorem Ar.Ok.set_mk {x : Ar} (o : x.Ok) {a : Nat} (ha : a < x.l.length) {y : Int} (h0 : 0 ≤ y) (h1 : y ≤ 2000000000) :
  wrap_setter_set x.st (a : Int) y = some (match x.setW a y with | none => (⟨⟨#[]⟩, 0, 0, 0, 0⟩, 0, false) | some y' => (x.seen a y', ((x.nx a y').1 : Int), true)) := by
 obtain ⟨yy, h⟩ := o.set_loop ha _ y rfl h0 h1
 unfold wrap_setter_set wrap_setter_heights wrap_setter_heights_1_k1
 simp only [some_bind]
 rw [h]
 cases x.setW a y with
 | none => rfl
 | some y' => rfl
def Ar.allF (x : Ar) : Nat → Nat → Int → Option (List api_Seen × Int)
 | 0, _, y => some ([], y)
 | n + 1, a, y => if wc false (x.l.drop a) = 0 then some ([], y) else
  match x.setW a y with
  | none => none
  | some y' => match x.allF n (x.nx a y').1 (y' + x.lh) with
   | none => none
   | some (o, e) => some (x.seen a y' :: o, e)
theorem more_in_rest {l : List UInt8} {a : Nat} (h : ¬ wc false (l.drop a) = 0) : a < l.length := by
 rcases Nat.lt_or_ge a l.length with h' | h'
 ·exact h'
 ·exact absurd (by rw [List.drop_eq_nil_of_le h']; rfl) h
theorem Ar.Ok.all_loop {x : Ar} (o : x.Ok) : ∀ (n a : Nat) (y : Int) (acc : List api_Seen), x.l.length - a < n → a ≤ x.l.length → acc.length ≤ a → 0 ≤ y → y ≤ 1001000000 →
  wrap_all_k1_l57 ⟨x.l.toArray⟩ x.lh x.st y acc (a : Int) = some (match x.allF n a y with | none => .inl () | some (out, e) => .inr (e, acc ++ out)) := by
 intro n
 induction n with
 | zero => intro a y acc h; omega
 | succ n ih =>
  intro a y acc hn ha hacc h0 h1
  have hl := o.hl
  have hlh := o.lh
  rw [wrap_all_k1_l57, sz, if_pos ⟨by omega, by omega⟩, rest_mk, words_mk (rest_ok o.ho a), some_bind]
  unfold Ar.allF
  by_cases hw : wc false (x.l.drop a) = 0
  ·rw [if_pos hw]
   show (if ((wc false (x.l.drop a) : Nat) : Int) = 0 then _ else _) = _
   rw [if_pos (by omega)]
   simp
  ·rw [if_neg hw]
   show (if ((wc false (x.l.drop a) : Nat) : Int) = 0 then _ else _) = _
   have hlt := more_in_rest hw
   rw [if_neg (by omega), o.set_mk hlt h0 (by omega), some_bind]
   cases hs : x.setW a y with
   | none => rfl
   | some y' =>
    obtain ⟨hm, hgt, hle⟩ := o.nx_ok hlt y'
    have hb := x.setW_le a _ y y' rfl hs
    have ey : (x.seen a y').Y = y' := rfl
    simp only [Bool.not_true, Bool.false_eq_true, if_false, ey]
    rw [if_pos (by omega), w64_id (n := y' + x.lh) (by omega) (by omega), ih _ _ _ (by omega) hle (by simp; omega) (by omega) (by omega)]
    cases x.allF n (x.nx a y').1 (y' + x.lh) with
    | none => rfl
    | some r => simp
end Go.Proofs.YtaemgcpcfnbmdaaGreatDoor.LG
namespace Go.Proofs.YtaemgcpcfnbmdaaGreatDoor.LG
open Go Go.LG Go.Lib

theorem mk_nil {p : List UInt8} : ((⟨p.toArray⟩ : ByteArray) = ⟨#[]⟩) ↔ p = [] := by
 constructor
 ·intro h
  have := congrArg (fun k : ByteArray => k.data.toList) h
  simpa using this
 ·rintro rfl; rfl
def okQ (v : Bool) (b : api_Breaks) (l : List UInt8) (sc : Int) : Bool := v && (vb b && okS l) && decide (50 ≤ sc ∧ sc ≤ 300)
def codeQ (v : Bool) (f : api_Font) (b : api_Breaks) (l : List UInt8) (sc : Int) : Int := if okQ v b l sc = true then (if okP f b l = true then 0 else 20) else 1
theorem next_code (f : api_Font) (hf : Sm f) (b : api_Breaks) (l : List UInt8) (hk : b.Keep.length ≤ 100000000000000) (hl : l.length ≤ 1000000) (hne : l ≠ []) {v : Bool} (h1 : font_Valid f = some v) (h2 : formeref07_Valid f = some v) (hF : v = true → Fok f) (sc : Int) {w : Int} (hw : 0 ≤ w ∧ w ≤ 1000000) :
  ∃ z, inline_Next f b ⟨l.toArray⟩ 0 sc w = some (z, codeQ v f b l sc) := by
 have hp : 0 < l.length := List.length_pos_iff.2 hne
 have key : ∃ z, inline_Next f b ⟨l.toArray⟩ 0 sc w = some (z, codeQ v f b l sc) := by
  unfold inline_Next codeQ okQ
  have ha : (0 : Int) ≤ 0 ∧ (0 : Int) ≤ (l.length : Int) - 1 := ⟨Int.le_refl _, by omega⟩
  have hw' : 0 ≤ w ∧ w ≤ 1000000000 := ⟨hw.1, by omega⟩
  rw [sz, w64_id (n := (l.length : Int) - 1) (by omega) (by omega), within_mk, within_mk, some_bind]
  simp only [ha, hw', and_self, decide_true, Bool.not_true, Bool.false_eq_true, if_false, some_bind, prepare_all f hf b l hk sc h1 hF]
  cases hc : (v && (vb b && okS l) && decide (50 ≤ sc ∧ sc ≤ 300))
  ·exact ⟨_, rfl⟩
  ·cases hp : okP f b l
   ·exact ⟨_, rfl⟩
   ·have ho : okS l = true := by
     rw [Bool.and_eq_true, Bool.and_eq_true, Bool.and_eq_true] at hc
     exact hc.1.2.2
    have hlen := (okS_all ho).2
    have hx := (next_at f hf b l (by omega) sc (show 0 < l.length by omega) w).1
    have hx' : inline_setter_next_k1 ⟨l.toArray⟩ ((ends b l).map brk) f sc 0 w = some (ln f l sc 0 (nxl f b l sc 0 w)) := hx
    simp only [if_true, some_bind, hx']
    exact ⟨_, rfl⟩
 exact key
theorem okP_nil (f : api_Font) (b : api_Breaks) : okP f b [] = true := rfl
theorem lines_code (f : api_Font) (hf : Sm f) (b : api_Breaks) (hk : b.Keep.length ≤ 100000000000000) {v : Bool} (h1 : font_Valid f = some v) (hF : v = true → Fok f) (sc : Int) {w : Int} (hw : 0 ≤ w ∧ w ≤ 1000000) :
  inline_Lines f b (⟨#[]⟩ : ByteArray) sc [w] = some ([], codeQ v f b [] sc) := by
 have hb : badR [w] = false := by
  unfold badR
  simp
  omega
 unfold codeQ
 cases hq : okQ v b [] sc
 ·unfold inline_Lines
  rw [bad_mk [w] (by simp), some_bind, hb]
  have hp := prepare_all f hf b [] hk sc h1 hF
  unfold okQ at hq
  rw [hq] at hp
  have hp' : inline_prepare f b (⟨#[]⟩ : ByteArray) sc = some (Sum.inl (⟨#[]⟩, [])) := hp
  simp only [Bool.false_eq_true, if_false, hp', some_bind]
 ·have hq' := hq
  unfold okQ at hq'
  rw [Bool.and_eq_true, Bool.and_eq_true, Bool.and_eq_true] at hq'
  obtain ⟨⟨hv, hvb, ho⟩, hsc⟩ := hq'
  subst hv
  have h := lines_v f hf (hF rfl) h1 b [] hk (by decide) hvb ho sc (of_decide_eq_true hsc) [w] (by simp)
  rw [hb, okP_nil] at h
  have h' : inline_Lines f b (⟨#[]⟩ : ByteArray) sc [w] = some (lns f b [] sc (roomAt [w]) 1 0 0, 0) := h
  rw [h', if_pos rfl, okP_nil, if_pos rfl]
  rfl
def okR (x : Ar) (y : Int) : Bool := decide (okS x.l = true ∧ vfl x.fl x.wd = true ∧ (0 ≤ x.lh ∧ x.lh ≤ 1000000) ∧ (0 ≤ y ∧ y ≤ 1000000000) ∧ (0 ≤ x.al ∧ x.al ≤ 2) ∧ (0 ≤ x.dir ∧ x.dir ≤ 1))
def Ar.code (x : Ar) (v : Bool) (y : Int) : Int := if okR x y = true then codeQ v x.f x.b x.l x.sc else 1
theorem vfl_wd {fl : List api_Float} {w : Int} (h : vfl fl w = true) : (0 ≤ w ∧ w ≤ 1000000) ∧ fl.length ≤ 200 := by
 unfold vfl at h
 rw [Bool.and_eq_true, Bool.and_eq_true] at h
 exact ⟨of_decide_eq_true h.1.1, of_decide_eq_true h.1.2⟩
theorem check21 (x : Ar) (hf : Sm x.f) (hk : x.b.Keep.length ≤ 100000000000000) (hl : x.l.length ≤ 1000000) (hfl : x.fl.length ≤ 1000000) {v : Bool} (h1 : font_Valid x.f = some v) (h2 : formeref07_Valid x.f = some v) (hF : v = true → Fok x.f) (y : Int) :
  wrap_setter_check x.st y = some (x.code v y) := by
 unfold wrap_setter_check Ar.code okR Ar.st
 simp only [valid_mk, fvalid20 x.fl x.wd hfl, some_bind]
 by_cases hc : okS x.l = true ∧ vfl x.fl x.wd = true ∧ (0 ≤ x.lh ∧ x.lh ≤ 1000000) ∧ (0 ≤ y ∧ y ≤ 1000000000) ∧ (0 ≤ x.al ∧ x.al ≤ 2) ∧ (0 ≤ x.dir ∧ x.dir ≤ 1)
 ·obtain ⟨c1, c2, c3, c4, c5, c6⟩ := hc
  have n1 : ¬ x.lh < 0 := by omega
  have n2 : ¬ 1000000 < x.lh := by omega
  have n3 : ¬ y < 0 := by omega
  have n4 : ¬ 1000000000 < y := by omega
  have n5 : ¬ x.al < 0 := by omega
  have n6 : ¬ 2 < x.al := by omega
  have n7 : ¬ x.dir < 0 := by omega
  have n8 : ¬ 1 < x.dir := by omega
  have hw := (vfl_wd c2).1
  simp only [c1, c2, c3, c4, c5, c6, and_self, decide_true, if_true, n1, n2, n3, n4, n5, n6, n7, n8, decide_false, Bool.not_true, Bool.false_eq_true, if_false, some_bind]
  by_cases hn : x.l = []
  ·have e : (⟨x.l.toArray⟩ : ByteArray) = ⟨#[]⟩ := mk_nil.2 hn
   rw [if_pos e, lines_code x.f hf x.b hk h1 hF x.sc hw, some_bind, hn]
  ·have e : ¬ (⟨x.l.toArray⟩ : ByteArray) = ⟨#[]⟩ := fun h => hn (mk_nil.1 h)
   obtain ⟨z, hz⟩ := next_code x.f hf x.b x.l hk hl hn h1 h2 hF x.sc hw
   rw [if_neg e, hz, some_bind]
 ·rw [decide_eq_false hc]
  by_cases c1 : okS x.l = true
  ·by_cases c2 : vfl x.fl x.wd = true
   ·by_cases n1 : x.lh < 0
    ·simp [c1, c2, n1]
    ·by_cases n2 : 1000000 < x.lh
     ·simp [c1, c2, n1, n2]
     ·by_cases n3 : y < 0
      ·simp [c1, c2, n1, n2, n3]
      ·by_cases n4 : 1000000000 < y
       ·simp [c1, c2, n1, n2, n3, n4]
       ·by_cases n5 : x.al < 0
        ·simp [c1, c2, n1, n2, n3, n4, n5]
        ·by_cases n6 : 2 < x.al
         ·simp [c1, c2, n1, n2, n3, n4, n5, n6]
         ·by_cases n7 : x.dir < 0
          ·simp [c1, c2, n1, n2, n3, n4, n5, n6, n7]
          ·have n8 : 1 < x.dir := by
            rcases Int.lt_or_le 1 x.dir with h | h
            ·exact h
            ·exact absurd ⟨c1, c2, ⟨by omega, by omega⟩, ⟨by omega, by omega⟩, ⟨by omega, by omega⟩, by omega, h⟩ hc
           simp [c1, c2, n1, n2, n3, n4, n5, n6, n7, n8]
   ·simp [c1, c2]
  ·simp [c1]
def Ar.ans (x : Ar) (v : Bool) (y : Int) : List api_Seen × Int × Int :=
 if x.code v y = 0 then (match x.allF (x.l.length + 1) 0 y with | none => ([], 0, 3) | some (out, e) => if e ≤ 1000000000 then (out, e, 0) else ([], 0, 3)) else ([], 0, x.code v y)
theorem Ar.ok_of (x : Ar) (hf : Sm x.f) (hk : x.b.Keep.length ≤ 100000000000000) (hl : x.l.length ≤ 100) {v : Bool} (h1 : font_Valid x.f = some v) (h2 : formeref07_Valid x.f = some v) (hF : v = true → Fok x.f) {y : Int} (h : x.code v y = 0) : x.Ok ∧ 0 ≤ y ∧ y ≤ 1000000000 := by
 unfold Ar.code codeQ at h
 cases hr : okR x y
 ·rw [hr] at h; simp at h
 ·rw [hr, if_pos rfl] at h
  cases hq : okQ v x.b x.l x.sc
  ·rw [hq] at h; simp at h
  ·rw [hq, if_pos rfl] at h
   cases hp : okP x.f x.b x.l
   ·rw [hp] at h; simp at h
   ·unfold okQ at hq
    rw [Bool.and_eq_true, Bool.and_eq_true, Bool.and_eq_true] at hq
    obtain ⟨⟨hv, hvb, ho⟩, hsc⟩ := hq
    subst hv
    obtain ⟨_, r2, r3, r4, r5, r6⟩ := of_decide_eq_true hr
    exact ⟨⟨hf, h1, h2, hF rfl, hk, hvb, ho, hl, of_decide_eq_true hsc, r3, r5, r6, r2, hp⟩, r4⟩
theorem Lines21 (x : Ar) (hf : Sm x.f) (hk : x.b.Keep.length ≤ 100000000000000) (hl : x.l.length ≤ 100) (hfl : x.fl.length ≤ 1000000) {v : Bool} (h1 : font_Valid x.f = some v) (h2 : formeref07_Valid x.f = some v) (hF : v = true → Fok x.f) (y : Int) :
  wrap_Lines x.f x.b ⟨x.l.toArray⟩ x.sc x.lh x.al x.dir x.wd y x.fl = some (x.ans v y) := by
 have hc := check21 x hf hk (by omega) hfl h1 h2 hF y
 have hc' : wrap_setter_check ⟨x.f, x.b, ⟨x.l.toArray⟩, x.sc, x.lh, x.al, x.dir, x.wd, x.fl⟩ y = some (x.code v y) := hc
 unfold wrap_Lines Ar.ans wrap_all_k1
 rw [hc', some_bind]
 by_cases h0 : x.code v y = 0
 ·obtain ⟨o, hy⟩ := x.ok_of hf hk hl h1 h2 hF h0
  have hA := o.all_loop (x.l.length + 1) 0 y [] (by omega) (Nat.zero_le _) (Nat.le_refl _) hy.1 (by omega)
  have hA' : wrap_all_k1_l57 ⟨x.l.toArray⟩ x.lh ⟨x.f, x.b, ⟨x.l.toArray⟩, x.sc, x.lh, x.al, x.dir, x.wd, x.fl⟩ y [] 0 = some (match x.allF (x.l.length + 1) 0 y with | none => .inl () | some (out, e) => .inr (e, [] ++ out)) := hA
  rw [if_neg (by simp [h0]), if_pos h0, hA']
  cases x.allF (x.l.length + 1) 0 y with
  | none => rfl
  | some r =>
   obtain ⟨out, e⟩ := r
   by_cases he : e ≤ 1000000000
   ·simp [he]
   ·simp [he]
 ·rw [if_pos h0, if_neg h0]
end Go.Proofs.YtaemgcpcfnbmdaaGreatDoor.LG
namespace Go.Proofs.YtaemgcpcfnbmdaaGreatDoor.LG
open Go Go.LG Go.Lib

theorem head_true : formelaw21_head = some true := formelaw21_head_le (fu := 300) _ (by kernel_rfl)
theorem args21 (x : Ar) (hk : x.b.Keep.length ≤ 100000000000000) (hl : x.l.length ≤ 1000000) (hfl : x.fl.length ≤ 1000000) {v : Bool} (h2 : formeref07_Valid x.f = some v) (y : Int) :
  formeref21_Args x.f x.b ⟨x.l.toArray⟩ x.sc x.lh x.al x.dir x.wd y x.fl = some (okQ v x.b x.l x.sc && okR x y) := by
 unfold formeref21_Args okQ okR
 simp only [h2, refvalid8 x.b hk, refValid_mk x.l (show x.l.length ≤ 9223372036854775807 by omega), rvalid20 x.fl x.wd hfl, some_bind]
 cases v
 ·simp
 ·cases vb x.b
  ·simp
  ·cases okS x.l
   ·simp
   ·by_cases c1 : x.sc < 50
    ·have : ¬ (50 ≤ x.sc ∧ x.sc ≤ 300) := by omega
     simp [c1, this]
    ·by_cases c2 : 300 < x.sc
     ·have : ¬ (50 ≤ x.sc ∧ x.sc ≤ 300) := by omega
      simp [c1, c2, this]
     ·have hs : 50 ≤ x.sc ∧ x.sc ≤ 300 := by omega
      cases vfl x.fl x.wd
      ·simp [c1, c2]
      ·by_cases d1 : 0 ≤ x.lh
       ·by_cases d2 : x.lh ≤ 1000000
        ·by_cases d3 : 0 ≤ x.al
         ·by_cases d4 : x.al ≤ 2
          ·by_cases d5 : 0 ≤ x.dir
           ·by_cases d6 : x.dir ≤ 1
            ·by_cases d7 : 0 ≤ y
             ·by_cases d8 : y ≤ 1000000000 <;> simp [c1, c2, hs, d1, d2, d3, d4, d5, d6, d7, d8]
             ·simp [c1, c2, hs, d1, d2, d3, d4, d5, d6, d7]
            ·simp [c1, c2, hs, d1, d2, d3, d4, d5, d6]
           ·simp [c1, c2, hs, d1, d2, d3, d4, d5]
          ·simp [c1, c2, hs, d1, d2, d3, d4]
         ·simp [c1, c2, hs, d1, d2, d3]
        ·simp [c1, c2, hs, d1, d2]
       ·simp [c1, c2, hs, d1]
theorem few21 (f : api_Font) (l : List UInt8) (fl : List api_Float) : ∃ r, formeref21_Few f ⟨l.toArray⟩ fl = some r ∧ (r = true → f.Glyphs.length ≤ 100 ∧ f.Kerns.length ≤ 210 ∧ l.length ≤ 80 ∧ fl.length ≤ 20) := by
 unfold formeref21_Few formeref07_Few
 rw [sz]
 by_cases c1 : (f.Glyphs.length : Int) ≤ 100
 ·by_cases c2 : (f.Kerns.length : Int) ≤ 210
  ·by_cases c3 : (l.length : Int) ≤ 80
   ·by_cases c4 : (fl.length : Int) ≤ 20
    ·exact ⟨true, by simp [c1, c2, c3, c4], fun _ => ⟨by omega, by omega, by omega, by omega⟩⟩
    ·exact ⟨false, by simp [c1, c2, c3, c4], fun h => by cases h⟩
   ·exact ⟨false, by simp [c1, c2, c3], fun h => by cases h⟩
  ·exact ⟨false, by simp [c1, c2], fun h => by cases h⟩
 ·exact ⟨false, by simp [c1], fun h => by cases h⟩
theorem allF_len (x : Ar) : ∀ (n a : Nat) (y : Int) (r : List api_Seen × Int), x.allF n a y = some r → r.1.length ≤ n := by
 intro n
 induction n with
 | zero => intro a y r h; unfold Ar.allF at h; cases h; exact Nat.le_refl _
 | succ n ih =>
  intro a y r h
  unfold Ar.allF at h
  by_cases hw : wc false (x.l.drop a) = 0
  ·rw [if_pos hw] at h; cases h; exact Nat.zero_le _
  ·rw [if_neg hw] at h
   cases hs : x.setW a y with
   | none => rw [hs] at h; cases h
   | some y' =>
    rw [hs] at h
    cases hr : x.allF n (x.nx a y').1 (y' + x.lh) with
    | none => simp only [hr] at h; cases h
    | some r' =>
     simp only [hr] at h
     cases h
     have := ih _ _ _ hr
     simp only [List.length_cons]
     omega
def arOf (f : api_Font) (b : api_Breaks) (l : List UInt8) (x : formelaw21_Set) (fl : List api_Float) : Ar := ⟨f, b, l, x.Scale, x.Line, x.Align, x.Dir, x.Width, fl⟩
theorem lines21 (f : api_Font) (b : api_Breaks) (l : List UInt8) (x : formelaw21_Set) (fl : List api_Float) (hf : Sm f) (hk : b.Keep.length ≤ 100000000000000) (hl : l.length ≤ 100) (hfl : fl.length ≤ 1000000) {v : Bool} (h1 : font_Valid f = some v) (h2 : formeref07_Valid f = some v) (hF : v = true → Fok f) :
  formelaw21_lines f b ⟨l.toArray⟩ x fl = some ((arOf f b l x fl).ans v x.Y) := by
 have h := Lines21 (arOf f b l x fl) hf hk hl hfl h1 h2 hF x.Y
 have h' : wrap_Lines f b ⟨l.toArray⟩ x.Scale x.Line x.Align x.Dir x.Width x.Y fl = some ((arOf f b l x fl).ans v x.Y) := h
 unfold formelaw21_lines
 rw [h']; rfl
end Go.Proofs.YtaemgcpcfnbmdaaGreatDoor.LG
namespace Go.Proofs.YtaemgcpcfnbmdaaGreatDoor.LG
open Go Go.LG Go.Lib

structure Us (f : api_Font) (b : api_Breaks) (l : List UInt8) (x : formelaw21_Set) (fl : List api_Float) : Prop where
 hf : Sm f
 hl : l.length ≤ 80
 hfl : fl.length ≤ 20
 v : font_Valid f = some true
 rv : formeref07_Valid f = some true
 F : Fok f
 ho : okS l = true
 vb : vb b = true
 Y : 0 ≤ x.Y ∧ x.Y ≤ 1000000000
 lh : 0 ≤ x.Line ∧ x.Line ≤ 1000000
 wd : 0 ≤ x.Width ∧ x.Width ≤ 1000000
 sc : 50 ≤ x.Scale ∧ x.Scale ≤ 300
 al : 0 ≤ x.Align ∧ x.Align ≤ 2
 dir : 0 ≤ x.Dir ∧ x.Dir ≤ 1
 fv : vfl fl x.Width = true
theorem Us.cases {f : api_Font} {b : api_Breaks} {l : List UInt8} {x : formelaw21_Set} {fl : List api_Float} (hk : b.Keep.length ≤ 100000000000000) (U : Us f b l x fl) :
  (okP f b l = false ∧ formelaw21_lines f b ⟨l.toArray⟩ x fl = some ([], 0, 20)) ∨ (okP f b l = true ∧ (arOf f b l x fl).Ok ∧
   ((formelaw21_lines f b ⟨l.toArray⟩ x fl = some ([], 0, 3) ∧ ∀ out e, (arOf f b l x fl).allF (l.length + 1) 0 x.Y = some (out, e) → 1000000000 < e) ∨ ∃ out e, (arOf f b l x fl).allF (l.length + 1) 0 x.Y = some (out, e) ∧ e ≤ 1000000000 ∧ out.length ≤ l.length + 1 ∧ formelaw21_lines f b ⟨l.toArray⟩ x fl = some (out, e, 0))) := by
 have hQ : okQ true b l x.Scale = true := by
  unfold okQ
  rw [U.vb, U.ho, decide_eq_true U.sc]; rfl
 have hR : okR (arOf f b l x fl) x.Y = true := decide_eq_true ⟨U.ho, U.fv, U.lh, U.Y, U.al, U.dir⟩
 have hcode : (arOf f b l x fl).code true x.Y = if okP f b l = true then 0 else 20 := by
  unfold Ar.code codeQ
  have e : okQ true (arOf f b l x fl).b (arOf f b l x fl).l (arOf f b l x fl).sc = true := hQ
  rw [hR, e]; rfl
 have hL := lines21 f b l x fl U.hf hk (by have := U.hl; omega) (by have := U.hfl; omega) U.v U.rv (fun _ => U.F)
 rw [hL]
 cases hp : okP f b l
 ·rw [hp] at hcode
  left
  refine ⟨rfl, ?_⟩
  unfold Ar.ans
  rw [hcode]; rfl
 ·rw [hp, if_pos rfl] at hcode
  right
  obtain ⟨o, _⟩ := (arOf f b l x fl).ok_of U.hf hk (show l.length ≤ 100 by have := U.hl; omega) U.v U.rv (fun _ => U.F) hcode
  refine ⟨rfl, o, ?_⟩
  unfold Ar.ans
  rw [if_pos hcode]
  have el : (arOf f b l x fl).l.length = l.length := rfl
  rw [el]
  cases ha : (arOf f b l x fl).allF (l.length + 1) 0 x.Y with
  | none => exact .inl ⟨rfl, fun _ _ h => by cases h⟩
  | some r =>
   obtain ⟨out, e⟩ := r
   by_cases he : e ≤ 1000000000
   ·exact .inr ⟨out, e, rfl, he, allF_len _ _ _ _ _ ha, by simp [he]⟩
   ·exact .inl ⟨by simp [he], fun _ _ h => by cases h; omega⟩
theorem usable21 (f : api_Font) (b : api_Breaks) (l : List UInt8) (x : formelaw21_Set) (fl : List api_Float) (hk : b.Keep.length ≤ 100000000000000) :
  ∃ u, formelaw21_usable f b ⟨l.toArray⟩ x fl = some u ∧ (u = true → Us f b l x fl) := by
 obtain ⟨r, hr, hR⟩ := few21 f l fl
 unfold formelaw21_usable
 rw [hr, some_bind]
 cases r
 ·exact ⟨false, rfl, fun h => by cases h⟩
 ·obtain ⟨k1, k2, k3, k4⟩ := hR rfl
  have hf : Sm f := ⟨by omega, by omega⟩
  obtain ⟨v, hv, hv2, hF⟩ := fvalid_mk f hf
  have hA := args21 (arOf f b l x fl) hk (show l.length ≤ 1000000 by omega) (show fl.length ≤ 1000000 by omega) hv2 x.Y
  have hA' : formeref21_Args f b ⟨l.toArray⟩ x.Scale x.Line x.Align x.Dir x.Width x.Y fl = some (okQ v b l x.Scale && okR (arOf f b l x fl) x.Y) := hA
  refine ⟨okQ v b l x.Scale && okR (arOf f b l x fl) x.Y, by rw [if_pos rfl, hA']; rfl, fun h => ?_⟩
  rw [Bool.and_eq_true] at h
  obtain ⟨hq, hrr⟩ := h
  unfold okQ at hq
  rw [Bool.and_eq_true, Bool.and_eq_true, Bool.and_eq_true] at hq
  obtain ⟨⟨hv1, hvb, ho⟩, hsc⟩ := hq
  subst hv1
  obtain ⟨_, r2, r3, r4, r5, r6⟩ := of_decide_eq_true hrr
  exact ⟨hf, k3, k4, hv, hv2, hF rfl, ho, hvb, r4, r3, (vfl_wd r2).1, of_decide_eq_true hsc, r5, r6, r2⟩
theorem Ar.setW_at (x : Ar) (a : Nat) : ∀ (n : Nat) (y y' : Int), mu x.fl y = n → x.setW a y = some y' → ¬ (x.sp y' < x.w a y' ∧ x.en y' ≠ []) := by
 intro n
 induction n using Nat.strongRecOn with
 | _ n ih =>
  intro y y' hn h
  rw [Ar.setW] at h
  by_cases c1 : 1000000000 < y
  ·rw [if_pos c1] at h; cases h
  ·rw [if_neg c1] at h
   by_cases c2 : x.sp y < x.w a y ∧ x.en y ≠ []
   ·rw [dif_pos c2] at h
    exact ih _ (by rw [← hn]; exact (mu_lt c2.2).1) _ _ rfl h
   ·rw [dif_neg c2] at h
    cases h
    exact c2
theorem Ar.Ok.all_mem {x : Ar} (o : x.Ok) : ∀ (n a : Nat) (y : Int) (r : List api_Seen × Int), 0 ≤ y → x.allF n a y = some r → ∀ s ∈ r.1, ∃ a' y', a' < x.l.length ∧ 0 ≤ y' ∧ y' ≤ 1000000000 ∧ s = x.seen a' y' ∧ ¬ (x.sp y' < x.w a' y' ∧ x.en y' ≠ []) := by
 intro n
 induction n with
 | zero => intro a y r h0 h s hs; unfold Ar.allF at h; cases h; cases hs
 | succ n ih =>
  intro a y r h0 h s hs
  unfold Ar.allF at h
  by_cases hw : wc false (x.l.drop a) = 0
  ·rw [if_pos hw] at h; cases h; cases hs
  ·rw [if_neg hw] at h
   cases hsw : x.setW a y with
   | none => rw [hsw] at h; cases h
   | some y' =>
    rw [hsw] at h
    have hb := x.setW_le a _ y y' rfl hsw
    have hlh := o.lh
    cases hr : x.allF n (x.nx a y').1 (y' + x.lh) with
    | none => simp only [hr] at h; cases h
    | some r' =>
     simp only [hr] at h
     cases h
     rcases List.mem_cons.1 hs with rfl | hs
     ·exact ⟨a, y', more_in_rest hw, by omega, hb.2, rfl, x.setW_at a _ y y' rfl hsw⟩
     ·exact ih _ _ _ (by omega) hr s hs
end Go.Proofs.YtaemgcpcfnbmdaaGreatDoor.LG
namespace Go.Proofs.YtaemgcpcfnbmdaaGreatDoor.LG
open Go Go.LG Go.Lib

def shF (d : Int) (z : api_Float) : api_Float := ⟨z.Side, z.X, z.Y + d, z.W, z.H⟩
def shS (d : Int) (s : api_Seen) : api_Seen := ⟨s.Text, s.X, s.Y + d, s.W, s.H⟩
def Ar.mv (x : Ar) (d : Int) : Ar := ⟨x.f, x.b, x.l, x.sc, x.lh, x.al, x.dir, x.wd, x.fl.map (shF d)⟩
theorem bes_mv (z : api_Float) (y h d : Int) : bes (shF d z) (y + d) h = bes z y h := by
 unfold bes shF
 simp only
 by_cases c : 0 < z.H ∧ z.Y < y + max h 1 ∧ y < z.Y + z.H
 ·rw [decide_eq_true c, decide_eq_true (show 0 < z.H ∧ z.Y + d < y + d + max h 1 ∧ y + d < z.Y + d + z.H by omega)]
 ·rw [decide_eq_false c, decide_eq_false (show ¬ (0 < z.H ∧ z.Y + d < y + d + max h 1 ∧ y + d < z.Y + d + z.H) by omega)]
theorem rmL_mv (y h d : Int) : ∀ (fl : List api_Float) (r : Int × Int), rmL (y + d) h (fl.map (shF d)) r = rmL y h fl r
 | [], r => rfl
 | z :: fl, r => by
  rw [List.map_cons]
  unfold rmL
  rw [bes_mv]
  exact rmL_mv y h d fl _
theorem ends_mv (fl : List api_Float) (y h d : Int) : ends' (fl.map (shF d)) (y + d) h = (ends' fl y h).map (· + d) := by
 induction fl with
 | nil => rfl
 | cons z fl ih =>
  rw [List.map_cons, ends_cons, ends_cons, bes_mv, ih]
  cases bes z y h
  ·rfl
  ·simp only [if_true, List.map_cons]
   congr 1
   show z.Y + d + z.H = z.Y + z.H + d
   omega
theorem foldl_min_mv (d : Int) : ∀ (l : List Int) (a : Int), (l.map (· + d)).foldl min (a + d) = l.foldl min a + d
 | [], a => rfl
 | b :: l, a => by
  rw [List.map_cons, List.foldl_cons, List.foldl_cons, show min (a + d) (b + d) = min a b + d by omega]
  exact foldl_min_mv d l _
theorem mn_mv {l : List Int} (d : Int) (h : l ≠ []) : mn (l.map (· + d)) = mn l + d := by
 cases l with
 | nil => exact absurd rfl h
 | cons a l => exact foldl_min_mv d l a
section
variable (x : Ar) (d : Int)
theorem mv_lo (y : Int) : (x.mv d).lo (y + d) = x.lo y := by unfold Ar.lo rm Ar.mv; simp only [rmL_mv]
theorem mv_hi (y : Int) : (x.mv d).hi (y + d) = x.hi y := by unfold Ar.hi rm Ar.mv; simp only [rmL_mv]
theorem mv_sp (y : Int) : (x.mv d).sp (y + d) = x.sp y := by unfold Ar.sp; rw [mv_lo, mv_hi]
theorem mv_nx (a : Nat) (y : Int) : (x.mv d).nx a (y + d) = x.nx a y := by unfold Ar.nx; rw [mv_sp]; rfl
theorem mv_w (a : Nat) (y : Int) : (x.mv d).w a (y + d) = x.w a y := by unfold Ar.w; rw [mv_nx]; rfl
theorem mv_pl (a : Nat) (y : Int) : (x.mv d).pl a (y + d) = x.pl a y := by unfold Ar.pl; rw [mv_nx, mv_sp]; rfl
theorem mv_seen (a : Nat) (y : Int) : (x.mv d).seen a (y + d) = shS d (x.seen a y) := by unfold Ar.seen; rw [mv_pl, mv_lo, mv_w]; rfl
theorem mv_en (y : Int) : (x.mv d).en (y + d) = (x.en y).map (· + d) := ends_mv x.fl y x.lh d
theorem mv_setW (hd : 0 ≤ d) (a : Nat) : ∀ (n : Nat) (y : Int), mu x.fl y = n → (x.mv d).setW a (y + d) = match x.setW a y with | none => none | some y' => if y' + d ≤ 1000000000 then some (y' + d) else none := by
 intro n
 induction n using Nat.strongRecOn with
 | _ n ih =>
  intro y hn
  conv => lhs; rw [Ar.setW]
  conv => rhs; rw [Ar.setW]
  rw [mv_sp, mv_w]
  by_cases c1 : 1000000000 < y
  ·rw [if_pos c1, if_pos (by omega)]
  ·rw [if_neg c1]
   by_cases c2 : x.sp y < x.w a y ∧ x.en y ≠ []
   ·have hm := mu_lt c2.2
    have e : (x.mv d).en (y + d) ≠ [] := by rw [mv_en]; simpa using c2.2
    have em : mn ((x.mv d).en (y + d)) = mn (x.en y) + d := by rw [mv_en]; exact mn_mv d c2.2
    rw [dif_pos c2, dif_pos ⟨c2.1, e⟩, em, ih _ (by rw [← hn]; exact hm.1) _ rfl]
    by_cases c3 : 1000000000 < y + d
    ·rw [if_pos c3]
     cases hs : x.setW a (mn (x.en y)) with
     | none => rfl
     | some y' =>
      have hb := x.setW_le a _ _ y' rfl hs
      have hlt : y < mn (x.en y) := hm.2
      simp only
      rw [if_neg (by omega)]
    ·rw [if_neg c3]
   ·have e : ¬ (x.sp y < x.w a y ∧ (x.mv d).en (y + d) ≠ []) := fun h => c2 ⟨h.1, fun h0 => h.2 (by rw [mv_en, h0]; rfl)⟩
    rw [dif_neg c2, dif_neg e]
    simp only
    by_cases c3 : 1000000000 < y + d
    ·rw [if_pos c3, if_neg (by omega)]
    ·rw [if_neg c3, if_pos (by omega)]
theorem allF_le (h0 : 0 ≤ x.lh) : ∀ (n a : Nat) (y : Int) (r : List api_Seen × Int), x.allF n a y = some r → y ≤ r.2 := by
 intro n
 induction n with
 | zero => intro a y r h; unfold Ar.allF at h; cases h; exact Int.le_refl _
 | succ n ih =>
  intro a y r h
  unfold Ar.allF at h
  by_cases hw : wc false (x.l.drop a) = 0
  ·rw [if_pos hw] at h; cases h; exact Int.le_refl _
  ·rw [if_neg hw] at h
   cases hs : x.setW a y with
   | none => rw [hs] at h; cases h
   | some y' =>
    rw [hs] at h
    have hb := x.setW_le a _ y y' rfl hs
    cases hr : x.allF n (x.nx a y').1 (y' + x.lh) with
    | none => simp only [hr] at h; cases h
    | some r' =>
     simp only [hr] at h
     cases h
     have := ih _ _ _ hr
     simp only
     omega
theorem mv_allF (hd : 0 ≤ d) (h0 : 0 ≤ x.lh) : ∀ (n a : Nat) (y : Int) (out : List api_Seen) (e : Int), x.allF n a y = some (out, e) → e + d ≤ 1000000000 → (x.mv d).allF n a (y + d) = some (out.map (shS d), e + d) := by
 intro n
 induction n with
 | zero => intro a y out e h he; unfold Ar.allF at h ⊢; cases h; rfl
 | succ n ih =>
  intro a y out e h he
  unfold Ar.allF at h ⊢
  have el : (x.mv d).l = x.l := rfl
  have eh : (x.mv d).lh = x.lh := rfl
  rw [el, eh]
  by_cases hw : wc false (x.l.drop a) = 0
  ·rw [if_pos hw] at h ⊢; cases h; rfl
  ·rw [if_neg hw] at h ⊢
   rw [mv_setW x d hd a _ y rfl]
   cases hs : x.setW a y with
   | none => rw [hs] at h; cases h
   | some y' =>
    rw [hs] at h
    cases hr : x.allF n (x.nx a y').1 (y' + x.lh) with
    | none => simp only [hr] at h; cases h
    | some r' =>
     obtain ⟨out', e'⟩ := r'
     simp only [hr] at h
     cases h
     have hle := allF_le x h0 _ _ _ _ hr
     simp only at hle ⊢
     rw [if_pos (by omega)]
     simp only [mv_nx]
     rw [show y' + d + x.lh = y' + x.lh + d by omega, ih _ _ _ _ hr he]
     simp only [mv_seen, List.map_cons]
end
theorem moved_loop (fl : List api_Float) (hl : fl.length ≤ 1000000) (hz : fl.all fwf = true) {d : Int} (hd : 0 ≤ d ∧ d ≤ 65535) : ∀ (n i : Nat) (acc : List api_Float), fl.length - i = n → i ≤ fl.length → acc.length ≤ i →
  formelaw21_WrapMoves_l89 fl d acc (i : Int) = some (acc ++ (fl.drop i).map (shF d)) := by
 intro n
 induction n with
 | zero => intro i acc hn hi ha; rw [formelaw21_WrapMoves_l89, if_neg (by omega), List.drop_eq_nil_of_le (by omega)]; simp
 | succ n ih =>
  intro i acc hn hi ha
  have hlt : i < fl.length := by omega
  have hzi := fwf_open (List.all_eq_true.1 hz _ (List.getElem_mem hlt))
  rw [formelaw21_WrapMoves_l89, if_pos (by omega), if_pos ⟨by omega, by omega⟩, if_pos (by omega), getD_at2 _ _ hlt, w64_id (n := (i : Int) + 1) (by omega) (by omega), add1, w64_id (n := d) (by omega) (by omega), w64_id (n := fl[i].Y + d) (by omega) (by omega), ih (i + 1) _ (by omega) (by omega) (by simp; omega), List.drop_eq_getElem_cons hlt, List.append_assoc]
  rfl
theorem moves_loop (ys : List api_Seen) (hl : ys.length ≤ 1000000) {d : Int} (hd : 0 ≤ d ∧ d ≤ 65535) (hm : ∀ s ∈ ys, 0 ≤ s.Y ∧ s.Y ≤ 1000000000) : ∀ (n i : Nat), ys.length - i = n → i ≤ ys.length →
  formelaw21_WrapMoves_l285 d ys (ys.map (shS d)) true (i : Int) = some true := by
 intro n
 induction n with
 | zero => intro i hn hi; rw [formelaw21_WrapMoves_l285, if_neg (by omega)]
 | succ n ih =>
  intro i hn hi
  have hlt : i < ys.length := by omega
  have h0 := hm _ (List.getElem_mem hlt)
  have hlt' : i < (ys.map (shS d)).length := by simpa using hlt
  rw [formelaw21_WrapMoves_l285, if_pos (by omega), if_pos ⟨by omega, by omega⟩]
  simp only [if_true]
  rw [if_pos ⟨by omega, by omega⟩, getD_at2 _ _ hlt, getD_at2 _ _ hlt', w64_id (n := (i : Int) + 1) (by omega) (by omega), add1, w64_id (n := d) (by omega) (by omega), w64_id (n := ys[i].Y + d) (by omega) (by omega), List.getElem_map, show (decide ((⟨ys[i].Text, ys[i].X, ys[i].Y + d, ys[i].W, ys[i].H⟩ : api_Seen) = shS d ys[i])) = true from decide_eq_true rfl, some_bind]
  exact ih (i + 1) (by omega) (by omega)
theorem moves_true (f : api_Font) (b : api_Breaks) (s : ByteArray) (x : formelaw21_Set) (fl : List api_Float) (d : Int) (hk1 : b.Keep.length * 16 ≤ 140737488351232) (hd : 0 ≤ d ∧ d ≤ 65535) : formelaw21_WrapMoves f b s x fl d = some true := by
 have hk : b.Keep.length ≤ 100000000000000 := by omega
 obtain ⟨l, rfl⟩ : ∃ l : List UInt8, s = ⟨l.toArray⟩ := ⟨s.data.toList, (Lib.mk_data s).symm⟩
 obtain ⟨u, hu, hU⟩ := usable21 f b l x fl hk
 unfold formelaw21_WrapMoves
 rw [head_true, some_bind, hu, some_bind]
 cases u
 ·rfl
 ·have U := hU rfl
  have hfl := U.hfl
  have hY := U.Y
  have hz : fl.all fwf = true := by
   have hv := U.fv
   unfold vfl at hv
   rw [Bool.and_eq_true, Bool.and_eq_true] at hv
   exact hv.2
  have hM : formelaw21_WrapMoves_l89 fl d [] 0 = some (fl.map (shF d)) := moved_loop fl (by omega) hz hd _ 0 [] rfl (Nat.zero_le _) (Nat.le_refl _)
  have e1 : w64 (x.Y + w64 d) = x.Y + d := by rw [w64_id (n := d) (by omega) (by omega), w64_id (by omega) (by omega)]
  simp only [Bool.not_true, Bool.false_eq_true, if_false, hM, some_bind, e1]
  obtain ⟨u', hu', hU'⟩ := usable21 f b l ⟨x.Scale, x.Line, x.Align, x.Dir, x.Width, x.Y + d⟩ (fl.map (shF d)) hk
  have earr : arOf f b l ⟨x.Scale, x.Line, x.Align, x.Dir, x.Width, x.Y + d⟩ (fl.map (shF d)) = (arOf f b l x fl).mv d := rfl
  rcases U.cases hk with ⟨hp, h⟩ | ⟨hp, o, ⟨h, _⟩ | ⟨out, e, ha, he, hlen, h⟩⟩
  ·rw [h, some_bind, hu', some_bind]
   cases u'
   ·rfl
   ·rcases (hU' rfl).cases hk with ⟨_, h'⟩ | ⟨hp', _⟩
    ·rw [h']
     have e2 : ¬ (1000000000 < w64 (0 + w64 d)) := by rw [w64_id (n := d) (by omega) (by omega), w64_id (by omega) (by omega)]; omega
     have hL : formelaw21_WrapMoves_l285 d [] [] true 0 = some true := by rw [formelaw21_WrapMoves_l285, if_neg (by decide)]
     simp [hL, e2]
    ·rw [hp] at hp'; cases hp'
  ·rw [h, some_bind, hu', some_bind]
   cases u' <;> rfl
  ·rw [h, some_bind, hu', some_bind]
   cases u'
   ·rfl
   ·have hle := allF_le _ o.lh.1 _ _ _ _ ha
    have hle' : x.Y ≤ e := hle
    have e2 : w64 (e + w64 d) = e + d := by rw [w64_id (n := d) (by omega) (by omega), w64_id (by omega) (by omega)]
    by_cases c : 1000000000 < e + d
    ·simp [e2, c]
    ·have hl := U.hl
     have ha' := mv_allF _ d hd.1 o.lh.1 _ _ _ _ _ ha (by omega)
     have hmem := o.all_mem _ _ _ _ U.Y.1 ha
     have hL : formelaw21_WrapMoves_l285 d out (out.map (shS d)) true 0 = some true := moves_loop out (by omega) hd (fun s hs => by
      obtain ⟨a', y', _, q1, q2, rfl, _⟩ := hmem s hs
      exact ⟨q1, q2⟩) _ 0 rfl (Nat.zero_le _)
     have h2 : formelaw21_lines f b ⟨l.toArray⟩ ⟨x.Scale, x.Line, x.Align, x.Dir, x.Width, x.Y + d⟩ (fl.map (shF d)) = some (out.map (shS d), e + d, 0) := by
      rcases (hU' rfl).cases hk with ⟨hp', _⟩ | ⟨_, _, ⟨_, hno⟩ | ⟨out', e', ha2, _, _, h'⟩⟩
      ·rw [hp] at hp'; cases hp'
      ·have := hno (out.map (shS d)) (e + d) ha'
       omega
      ·rw [h']
       have ha2' : ((arOf f b l x fl).mv d).allF (l.length + 1) 0 (x.Y + d) = some (out', e') := ha2
       have ha'' : ((arOf f b l x fl).mv d).allF (l.length + 1) 0 (x.Y + d) = some (out.map (shS d), e + d) := ha'
       rw [ha''] at ha2'
       cases ha2'
       rfl
     simp [e2, c, h2, hL]
end Go.Proofs.YtaemgcpcfnbmdaaGreatDoor.LG
