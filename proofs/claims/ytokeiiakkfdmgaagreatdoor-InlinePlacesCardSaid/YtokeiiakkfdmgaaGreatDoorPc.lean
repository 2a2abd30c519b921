/-
  InlinePlaces: the plain law. Plain Lean; no program in sight.
-/
import Derived.Test.YtokeiiakkfdmgaaGreatDoorVi
import Derived.Test.YtokeiiakkfdmgaaGreatDoorFk
import Derived.Test.YtokeiiakkfdmgaaGreatDoorFi
set_option linter.unusedVariables false
set_option linter.unusedSimpArgs false
set_option maxRecDepth 100000
namespace Go.Proofs.YtokeiiakkfdmgaaGreatDoor.LG
open Go Go.LG Go.Lib

def cnt (c : Nat) (l : List UInt8) : Nat := l.countP fun b => decide (b.toNat = c)
theorem cnt_take {l : List UInt8} {i : Nat} (h : i < l.length) (c : Nat) : cnt c (l.take (i + 1)) = cnt c (l.take i) + (if l[i].toNat = c then 1 else 0) := by
  unfold cnt
  rw [List.take_add_one, List.getElem?_eq_getElem h, List.countP_append]
  congr 1
  show List.countP _ [l[i]] = _
  rw [List.countP_cons, List.countP_nil]
  simp
theorem getD_set {v : List Int} {i : Nat} (h : i < v.length) (x : Int) (c : Nat) : (v.set i x).getD c 0 = if i = c then x else v.getD c 0 := by
  simp only [List.getD_eq_getElem?_getD, List.getElem?_set]
  by_cases hc : i = c
  · rw [if_pos hc, if_pos hc, if_pos h]; rfl
  · rw [if_neg hc, if_neg hc]
theorem many_loop (p q : List UInt8) (hpq : p.length = q.length) (hl : p.length ≤ 1000000) : ∀ (n i : Nat) (v : List Int), p.length - i = n → i ≤ p.length → v.length = 256 → (∀ c, c < 256 → v.getD c 0 = (cnt c (p.take i) : Int) - (cnt c (q.take i) : Int)) →
    ∃ v', formelaw17_InlinePlaces_l285 ⟨q.toArray⟩ ⟨p.toArray⟩ v (i : Int) = some v' ∧ v'.length = 256 ∧ ∀ c, c < 256 → v'.getD c 0 = (cnt c p : Int) - (cnt c q : Int) := by
  intro n
  induction n with
  | zero =>
    intro i v hn hi hv hc
    rw [formelaw17_InlinePlaces_l285, sz, if_neg (by omega)]
    refine ⟨v, rfl, hv, fun c h => ?_⟩
    rw [hc c h, List.take_of_length_le (by omega), List.take_of_length_le (by omega)]
  | succ n ih =>
    intro i v hn hi hv hc
    have hp : i < p.length := by omega
    have hq : i < q.length := by omega
    have b1 := (p[i]).toNat_lt
    have b2 := (q[i]).toNat_lt
    have k1 : (0 : Int) ≤ (i : Int) ∧ (i : Int) < (p.length : Int) := ⟨by omega, by omega⟩
    have k2 : (0 : Int) ≤ (i : Int) ∧ (i : Int) < (q.length : Int) := ⟨by omega, by omega⟩
    have k3 : (0 : Int) ≤ ((p[i].toNat : Nat) : Int) ∧ ((p[i].toNat : Nat) : Int) < 256 := ⟨by omega, by omega⟩
    have k4 : (0 : Int) ≤ ((q[i].toNat : Nat) : Int) ∧ ((q[i].toNat : Nat) : Int) < 256 := ⟨by omega, by omega⟩
    have c1 := fun c (h : c < 256) => cnt_take hp c
    have c2 := fun c (h : c < 256) => cnt_take hq c
    have d1 : ∀ c, cnt c (p.take i) ≤ 1000000 := fun c => Nat.le_trans List.countP_le_length (by simp; omega)
    have d2 : ∀ c, cnt c (q.take i) ≤ 1000000 := fun c => Nat.le_trans List.countP_le_length (by simp; omega)
    have e1 : 0 + Int.toNat ((p[i].toNat : Nat) : Int) * 1 = p[i].toNat := by omega
    have e2 : 0 + Int.toNat ((q[i].toNat : Nat) : Int) * 1 = q[i].toNat := by omega
    rw [formelaw17_InlinePlaces_l285, sz, if_pos k1.2]
    simp only [if_pos k1, bt_mk p hp, bt_mk q hq, if_pos k3, if_pos k4, sz, if_pos k2, e1, e2]
    rw [w64_id (n := (i : Int) + 1) (by omega) (by omega), add1]
    have g1 := hc p[i].toNat b1
    have g2 := hc q[i].toNat b2
    have x1 := d1 p[i].toNat; have x2 := d2 p[i].toNat; have x3 := d1 q[i].toNat; have x4 := d2 q[i].toNat
    rw [w64_id (n := v.getD p[i].toNat 0 + 1) (by omega) (by omega)]
    have g3 : (v.set p[i].toNat (v.getD p[i].toNat 0 + 1)).getD q[i].toNat 0 = if p[i].toNat = q[i].toNat then v.getD p[i].toNat 0 + 1 else v.getD q[i].toNat 0 := getD_set (by omega) _ _
    rw [w64_id (n := (v.set p[i].toNat (v.getD p[i].toNat 0 + 1)).getD q[i].toNat 0 - 1) (by rw [g3]; split <;> omega) (by rw [g3]; split <;> omega)]
    refine ih (i + 1) _ (by omega) (by omega) (by simp [hv]) fun c h => ?_
    rw [getD_set (by simp; omega), g3, getD_set (by omega), c1 c h, c2 c h, hc c h]
    by_cases h1 : q[i].toNat = c
    · by_cases h2 : p[i].toNat = c
      · have := hc c h
        rw [if_pos h1, if_pos (by omega), if_pos h2, if_pos h1, h2]; omega
      · have := hc c h
        rw [if_pos h1, if_neg (by omega), if_neg h2, if_pos h1, h1]; omega
    · by_cases h2 : p[i].toNat = c
      · have := hc c h
        rw [if_neg h1, if_pos h2, if_pos h2, if_neg h1, h2]; omega
      · rw [if_neg h1, if_neg h2, if_neg h2, if_neg h1]; omega
theorem zero_loop (v : List Int) (hv : ∀ c, c < 256 → v.getD c 0 = 0) : ∀ (n i : Nat), 256 - i = n → i ≤ 256 → formelaw17_InlinePlaces_l339 v (i : Int) = some (.inr ()) := by
  intro n
  induction n with
  | zero => intro i hn hi; rw [formelaw17_InlinePlaces_l339, if_neg (by omega)]
  | succ n ih =>
    intro i hn hi
    have e1 : 0 + Int.toNat (i : Int) * 1 = i := by omega
    rw [formelaw17_InlinePlaces_l339, if_pos (by omega), if_pos ⟨by omega, by omega⟩, e1, if_neg (by rw [hv i (by omega)]; simp), w64_id (n := (i : Int) + 1) (by omega) (by omega), add1]
    exact ih (i + 1) (by omega) (by omega)
theorem zeros (c : Nat) : (List.replicate 256 (0 : Int)).getD c 0 = 0 := by
  simp only [List.getD_eq_getElem?_getD, List.getElem?_replicate]
  split <;> rfl
def atI (room w al dir : Int) : Int := if al = dir then 0 else if al = 2 then (room - w) / 2 else room - w
theorem place_mk (f : api_Font) (hf : Sm f) (F : Fok f) (hfv : font_Valid f = some true) (b : api_Breaks) (l : List UInt8) (hl : l.length ≤ 60) (ho : okS l = true) {sc : Int} (hsc : 50 ≤ sc ∧ sc ≤ 300) (hp : okP f b l = true) {room : Int} (hr : 0 ≤ room ∧ room ≤ 1000000000)
    {a : Nat} {p : Nat × Bool} (hm : p ∈ ends b l) (hap : a < p.1) (hpl : p.1 ≤ l.length) {al dir : Int} (ha : 0 ≤ al ∧ al ≤ 2) (hd : 0 ≤ dir ∧ dir ≤ 1) :
    ∃ t : List UInt8, inline_Place f ⟨l.toArray⟩ (ln f l sc a p) sc room al dir = some (⟨t.toArray⟩, atI room (W f l sc a p) al dir, 0) ∧ t.Perm (part l a p.1 p.2) := by
  have hP := part_okS ho (show l.length ≤ 1000 by omega) a p.1 p.2
  obtain ⟨t, ht, hperm⟩ := visual_mk (part l a p.1 p.2) hP dir (by omega)
  obtain ⟨h1, h2⟩ := ends_hyph hp
  have hg := part_hasG h1 a p.1 p.2 (h2 p hm)
  have hw := W_mk f hf F hfv b l (by omega) ho hsc hp a hm
  have hwd : 0 ≤ W f l sc a p ∧ W f l sc a p ≤ 6000001 := by
    have e : W f l sc a p = Wd f (part l a p.1 p.2) sc := rfl
    rw [e]
    refine wd_ok f hf F hfv hP ?_ hsc hg
    rw [part_hy, List.length_append]
    have h3 : (part l a p.1 false).length ≤ l.length := by
      unfold part
      rw [if_neg (by decide), List.append_nil]
      exact Nat.le_trans (trim_len _) (Nat.le_trans (shown_len _) (piece_len l a p.1))
    cases p.2 <;> simp <;> omega
  have f1 : (ln f l sc a p).From = (a : Int) := rfl
  have f2 : (ln f l sc a p).Until = (p.1 : Int) := rfl
  have f3 : (ln f l sc a p).Hyphen = p.2 := rfl
  have f4 : (ln f l sc a p).Width = W f l sc a p := rfl
  have g0 : ¬ (a : Int) < 0 := by omega
  have g1 : ¬ (p.1 : Int) ≤ (a : Int) := by omega
  have g2 : ¬ (l.length : Int) < (p.1 : Int) := by omega
  have e1 : w64 (room - W f l sc a p) = room - W f l sc a p := w64_id (by omega) (by omega)
  have e2 : Int.fdiv (room - W f l sc a p) (2 ^ 1) = (room - W f l sc a p) / 2 := by rw [Int.fdiv_eq_ediv_of_nonneg _ (by decide)]; rfl
  refine ⟨t, ?_, hperm⟩
  unfold inline_Place atI
  simp only [within_mk, hsc, hr, ha, hd, and_self, decide_true, if_true, some_bind, Bool.not_true, Bool.false_eq_true, if_false, hfv, valid_mk, ho, f1, f2, f3, f4, g0, g1, g2, decide_false, sz, seen_mk l (show l.length ≤ 1000000 by omega) (show a ≤ p.1 by omega) hpl, hw, not_true_eq_false, ht, e1, e2]
  by_cases c1 : al = dir
  · simp [c1]
  · by_cases c2 : al = 2
    · rw [if_neg c1, if_pos c2, if_neg c1, if_pos c2]
    · simp [c1, c2]
theorem place_step (f : api_Font) (hf : Sm f) (F : Fok f) (hfv : font_Valid f = some true) (b : api_Breaks) (l : List UInt8) (hl : l.length ≤ 60) (ho : okS l = true) {sc : Int} (hsc : 50 ≤ sc ∧ sc ≤ 300) (hp : okP f b l = true) {room : Int} (hr : 0 ≤ room ∧ room ≤ 1000000000)
    {a : Nat} {p : Nat × Bool} (hm : p ∈ ends b l) (hap : a < p.1) (hpl : p.1 ≤ l.length) {al dir : Int} (ha : 0 ≤ al ∧ al ≤ 2) (hd : 0 ≤ dir ∧ dir ≤ 1) (v : List Int) :
    formelaw17_InlinePlaces_l190 f ⟨l.toArray⟩ sc room (ln f l sc a p) ⟨(part l a p.1 p.2).toArray⟩ dir v al =
      formelaw17_InlinePlaces_l190 f ⟨l.toArray⟩ sc room (ln f l sc a p) ⟨(part l a p.1 p.2).toArray⟩ dir (List.set v (0 + Int.toNat dir * 3 + Int.toNat al * 1) (atI room (W f l sc a p) al dir)) (al + 1) := by
  obtain ⟨t, ht, hperm⟩ := place_mk f hf F hfv b l hl ho hsc hp hr hm hap hpl ha hd
  have hP := part_okS ho (show l.length ≤ 1000 by omega) a p.1 p.2
  have hlen := (okS_all hP).2
  obtain ⟨h1, h2⟩ := ends_hyph hp
  have hg := part_hasG h1 a p.1 p.2 (h2 p hm)
  have hPl : (part l a p.1 p.2).length ≤ 1000 := by
    rw [part_hy, List.length_append]
    have h3 : (part l a p.1 false).length ≤ l.length := by
      unfold part
      rw [if_neg (by decide), List.append_nil]
      exact Nat.le_trans (trim_len _) (Nat.le_trans (shown_len _) (piece_len l a p.1))
    cases p.2 <;> simp <;> omega
  have hwd : 0 ≤ W f l sc a p ∧ W f l sc a p ≤ 6000001 := wd_ok f hf F hfv hP hPl hsc hg
  obtain ⟨v', m1, m2, m3⟩ := many_loop t (part l a p.1 p.2) hperm.length_eq (by rw [hperm.length_eq]; omega) _ 0 (List.replicate 256 (0 : Int)) rfl (Nat.zero_le _) (List.length_replicate ..) (fun c _ => by rw [zeros]; simp [cnt])
  have m1' : formelaw17_InlinePlaces_l285 ⟨(part l a p.1 p.2).toArray⟩ ⟨t.toArray⟩ (List.replicate 256 (0 : Int)) 0 = some v' := m1
  have m4 : formelaw17_InlinePlaces_l339 v' 0 = some (.inr ()) := zero_loop v' (fun c h => by
    rw [m3 c h]
    have : cnt c t = cnt c (part l a p.1 p.2) := hperm.countP_eq _
    rw [this]; omega) _ 0 rfl (by omega)
  have f4 : (ln f l sc a p).Width = W f l sc a p := rfl
  have hin : ((if W f l sc a p ≤ room then ((if atI room (W f l sc a p) al dir < 0 then some true else some (decide (room < (w64 (atI room (W f l sc a p) al dir + W f l sc a p))))) >>= fun v250 => some v250) else some false) : Option Bool) = some false := by
    by_cases hwr : W f l sc a p ≤ room
    · rw [if_pos hwr]
      have hat : 0 ≤ atI room (W f l sc a p) al dir ∧ atI room (W f l sc a p) al dir + W f l sc a p ≤ room := by
        unfold atI
        split
        · omega
        · split <;> omega
      have n1 : ¬ atI room (W f l sc a p) al dir < 0 := by omega
      have n2 : ¬ room < atI room (W f l sc a p) al dir + W f l sc a p := by omega
      rw [if_neg n1, w64_id (by omega) (by omega), decide_eq_false n2]; rfl
    · rw [if_neg hwr]
  have e3 : w64 (al + 1) = al + 1 := w64_id (by omega) (by omega)
  conv => lhs; rw [formelaw17_InlinePlaces_l190]
  rw [if_pos (by omega), ht, some_bind]
  simp only [not_true_eq_false, if_false, sz, hperm.length_eq, decide_false, some_bind, Bool.false_eq_true, f4, hin, m1', m4, e3]
  rw [if_pos ⟨by omega, by omega⟩, if_pos ⟨by omega, by omega⟩]
theorem next_v (f : api_Font) (hf : Sm f) (F : Fok f) (hfv : font_Valid f = some true) (b : api_Breaks) (l : List UInt8) (hk : b.Keep.length ≤ 1000000) (hs : l.length ≤ 100000) (hv : vb b = true) (ho : okS l = true) (sc : Int) (hsc : 50 ≤ sc ∧ sc ≤ 300) (a : Int) {room : Int} (hr : 0 ≤ room ∧ room ≤ 1000000000) :
    (∃ e, ¬ e = 0 ∧ inline_Next f b ⟨l.toArray⟩ a sc room = some (⟨0, 0, 0, false⟩, e)) ∨
    (∃ n : Nat, a = (n : Int) ∧ n < l.length ∧ okP f b l = true ∧ inline_Next f b ⟨l.toArray⟩ a sc room = some (ln f l sc n (nxl f b l sc n room), 0)) := by
  have e1 : w64 ((l.length : Int) - 1) = (l.length : Int) - 1 := w64_id (by omega) (by omega)
  by_cases ha : 0 ≤ a ∧ a ≤ (l.length : Int) - 1
  · cases hp : okP f b l
    · left
      refine ⟨20, by decide, ?_⟩
      unfold inline_Next
      rw [sz, e1, within_mk, within_mk, some_bind, prepare_v f hf F hfv b l hk hs hv ho sc hsc, hp]
      simp only [ha, hr, and_self, decide_true, Bool.not_true, Bool.false_eq_true, if_false, some_bind]
    · right
      have hn : a = ((a.toNat : Nat) : Int) := by omega
      have hlt : a.toNat < l.length := by omega
      have hx := (next_at f hf b l hs sc hlt room).1
      rw [← hn] at hx
      refine ⟨a.toNat, hn, hlt, rfl, ?_⟩
      unfold inline_Next
      rw [sz, e1, within_mk, within_mk, some_bind, prepare_v f hf F hfv b l hk hs hv ho sc hsc, hp]
      simp only [ha, hr, and_self, decide_true, Bool.not_true, Bool.false_eq_true, if_false, some_bind, if_true, hx]
  · left
    refine ⟨1, by decide, ?_⟩
    unfold inline_Next
    rw [sz, e1, within_mk, some_bind]
    simp only [ha, decide_false, Bool.not_false, if_true, some_bind]
theorem places_true (f : api_Font) (b : api_Breaks) (s : ByteArray) (a sc room : Int) (hs : s.size ≤ 9223372036854775807) : formelaw17_InlinePlaces f b s a sc room = some true := by
  obtain ⟨l, rfl⟩ : ∃ l : List UInt8, s = ⟨l.toArray⟩ := ⟨s.data.toList, (Lib.mk_data s).symm⟩
  rw [sz] at hs
  obtain ⟨u, hu, hU⟩ := usable_mk f b l sc hs
  unfold formelaw17_InlinePlaces
  rw [head_true, some_bind, hu, some_bind]
  cases u
  · simp
  · have U := hU rfl
    have hl := U.hl
    have hk := U.hk
    obtain ⟨y, hy, hy2, hF⟩ := fvalid_mk f U.hf
    have hy3 := usable_v hu U.hf
    rw [hy2] at hy3
    cases hy3
    have F := hF rfl
    by_cases h1 : room < 0
    · simp [h1]
    · by_cases h2 : 1000000000 < room
      · simp [h1, h2]
      · have hr : 0 ≤ room ∧ room ≤ 1000000000 := by omega
        simp only [h1, h2, Bool.not_true, Bool.false_eq_true, if_false, decide_false, some_bind]
        rcases next_v f U.hf F hy b l (by omega) (by omega) U.hv U.ho sc U.hs a hr with ⟨e, he, hx⟩ | ⟨n, rfl, hlt, hp, hx⟩
        · rw [hx]
          simp [he]
        · obtain ⟨_, hm, hgt, hle⟩ := next_at f U.hf b l (by omega) sc hlt room
          rw [hx]
          generalize nxl f b l sc n room = p at *
          have f1 : (ln f l sc n p).From = (n : Int) := rfl
          have f2 : (ln f l sc n p).Until = (p.1 : Int) := rfl
          have f3 : (ln f l sc n p).Hyphen = p.2 := rfl
          have f4 : (ln f l sc n p).Width = W f l sc n p := rfl
          have g0 : ¬ (n : Int) < 0 := by omega
          have g1 : ¬ (p.1 : Int) ≤ (n : Int) := by omega
          have g2 : ¬ (l.length : Int) < (p.1 : Int) := by omega
          have st := fun {al dir : Int} (ha : 0 ≤ al ∧ al ≤ 2) (hd : 0 ≤ dir ∧ dir ≤ 1) (v : List Int) => place_step f U.hf F hy b l (by omega) U.ho U.hs hp hr hm hgt hle ha hd v
          have en : ∀ (dir : Int) (v : List Int), formelaw17_InlinePlaces_l190 f ⟨l.toArray⟩ sc room (ln f l sc n p) ⟨(part l n p.1 p.2).toArray⟩ dir v 3 = some (.inr v) := fun dir v => by rw [formelaw17_InlinePlaces_l190, if_neg (by decide)]
          have d1 : w64 (0 + 1) = 1 := by decide
          have d2 : w64 (1 + 1) = 2 := by decide
          generalize hWg : W f l sc n p = w at *
          have row : ∀ (dir : Int), 0 ≤ dir ∧ dir ≤ 1 → ∀ v, formelaw17_InlinePlaces_l190 f ⟨l.toArray⟩ sc room (ln f l sc n p) ⟨(part l n p.1 p.2).toArray⟩ dir v 0 =
              some (.inr (List.set (List.set (List.set v (0 + Int.toNat dir * 3 + Int.toNat 0 * 1) (atI room w 0 dir)) (0 + Int.toNat dir * 3 + Int.toNat 1 * 1) (atI room w 1 dir)) (0 + Int.toNat dir * 3 + Int.toNat 2 * 1) (atI room w 2 dir))) := fun dir hd v => by
            rw [st ⟨by decide, by decide⟩ hd, show (0 : Int) + 1 = 1 from rfl, st ⟨by decide, by decide⟩ hd, show (1 : Int) + 1 = 2 from rfl, st ⟨by decide, by decide⟩ hd, show (2 : Int) + 1 = 3 from rfl, en]
          have all : formelaw17_InlinePlaces_l149 f ⟨l.toArray⟩ sc room (ln f l sc n p) ⟨(part l n p.1 p.2).toArray⟩ (List.replicate 6 (0 : Int)) 0 = some (.inr [atI room w 0 0, atI room w 1 0, atI room w 2 0, atI room w 0 1, atI room w 1 1, atI room w 2 1]) := by
            rw [formelaw17_InlinePlaces_l149, if_pos (by decide), row 0 ⟨by decide, by decide⟩, some_bind, d1]
            simp only
            rw [formelaw17_InlinePlaces_l149, if_pos (by decide), row 1 ⟨by decide, by decide⟩, some_bind, d2]
            simp only
            rw [formelaw17_InlinePlaces_l149, if_neg (by decide)]
            rfl
          have hPl : (part l n p.1 p.2).length ≤ 1000 := by
            rw [part_hy, List.length_append]
            have h3 : (part l n p.1 false).length ≤ l.length := by
              unfold part
              rw [if_neg (by decide), List.append_nil]
              exact Nat.le_trans (trim_len _) (Nat.le_trans (shown_len _) (piece_len l n p.1))
            cases p.2 <;> simp <;> omega
          have hwd : 0 ≤ w ∧ w ≤ 6000001 := by
            rw [← hWg]
            obtain ⟨q1, q2⟩ := ends_hyph hp
            exact wd_ok f U.hf F hy (part_okS U.ho (show l.length ≤ 1000 by omega) n p.1 p.2) hPl U.hs (part_hasG q1 n p.1 p.2 (q2 p hm))
          have a00 : atI room w 0 0 = 0 := rfl
          have a11 : atI room w 1 1 = 0 := rfl
          have a10 : atI room w 1 0 = room - w := rfl
          have a01 : atI room w 0 1 = room - w := rfl
          have a20 : atI room w 2 0 = (room - w) / 2 := rfl
          have a21 : atI room w 2 1 = (room - w) / 2 := rfl
          have w1 : w64 (room - w) = room - w := w64_id (by omega) (by omega)
          have w2 : w64 (2 * ((room - w) / 2)) = 2 * ((room - w) / 2) := w64_id (by omega) (by omega)
          have w3 : w64 (room - w - 1) = room - w - 1 := w64_id (by omega) (by omega)
          have c1 : 2 * ((room - w) / 2) ≤ room - w := by omega
          have c2 : room - w - 1 ≤ 2 * ((room - w) / 2) := by omega
          simp only [some_bind, not_true_eq_false, if_false, f1, f2, f3, f4, hWg, g0, g1, g2, decide_false, Bool.false_eq_true, sz, refPart_mk U.ho (show n ≤ p.1 by omega) hle, all, a00, a11, a10, a01, a20, a21]
          show (if (0 : Int) ≤ 0 ∧ (0 : Int) < 2 then _ else none) = _
          have t0 : (0 : Int) ≤ 0 ∧ (0 : Int) < 2 := by decide
          have t1 : (0 : Int) ≤ 1 ∧ (1 : Int) < 2 := by decide
          have t2 : (0 : Int) ≤ 2 ∧ (2 : Int) < 3 := by decide
          have t3 : (0 : Int) ≤ 0 ∧ (0 : Int) < 3 := by decide
          have t4 : (0 : Int) ≤ 1 ∧ (1 : Int) < 3 := by decide
          have i02 : ([0, room - w, (room - w) / 2, room - w, 0, (room - w) / 2] : List Int).getD (0 + Int.toNat 0 * 3 + Int.toNat 2 * 1) 0 = (room - w) / 2 := rfl
          have i12 : ([0, room - w, (room - w) / 2, room - w, 0, (room - w) / 2] : List Int).getD (0 + Int.toNat 1 * 3 + Int.toNat 2 * 1) 0 = (room - w) / 2 := rfl
          have i00 : ([0, room - w, (room - w) / 2, room - w, 0, (room - w) / 2] : List Int).getD (0 + Int.toNat 0 * 3 + Int.toNat 0 * 1) 0 = 0 := rfl
          have i11 : ([0, room - w, (room - w) / 2, room - w, 0, (room - w) / 2] : List Int).getD (0 + Int.toNat 1 * 3 + Int.toNat 1 * 1) 0 = 0 := rfl
          have i01 : ([0, room - w, (room - w) / 2, room - w, 0, (room - w) / 2] : List Int).getD (0 + Int.toNat 0 * 3 + Int.toNat 1 * 1) 0 = room - w := rfl
          have i10 : ([0, room - w, (room - w) / 2, room - w, 0, (room - w) / 2] : List Int).getD (0 + Int.toNat 1 * 3 + Int.toNat 0 * 1) 0 = room - w := rfl
          simp only [if_pos t0, if_pos t1, if_pos t2, if_pos t3, if_pos t4, i02, i12, i00, i11, i01, i10, w1, w2, w3, c1, c2, decide_true, if_true, some_bind]
end Go.Proofs.YtokeiiakkfdmgaaGreatDoor.LG
