/-
  The plain functions with fuel, so that the kernel can compute them: printed by a program.
-/
import Derived.Test.YtlcfemplcaejgaaPd
import Derived.KernelRfl
set_option linter.unusedVariables false
set_option maxRecDepth 100000
namespace Go.Proofs.Ytlcfemplcaejgaa.LG
open Go Go.LG
def Le {α : Type} (x y : Option α) : Prop := ∀ r, x = some r → y = some r
theorem Le.rfl {α : Type} {x : Option α} : Le x x := fun _ h => h
theorem Le.none {α : Type} {x : Option α} : Le none x := fun _ h => nomatch h
theorem Le.bind {α β : Type} {x y : Option α} {f g : α → Option β} (h : Le x y) (k : ∀ a, Le (f a) (g a)) : Le (x >>= f) (y >>= g) := by
  intro r hr
  cases x with
  | none => cases hr
  | some a => rw [h a _root_.rfl]; exact k a r hr
theorem Le.ite {α : Type} {c : Prop} [Decidable c] {x y x' y' : Option α} (h : Le x x') (k : Le y y') : Le (if c then x else y) (if c then x' else y') := by
  by_cases hc : c
  · rw [if_pos hc, if_pos hc]; exact h
  · rw [if_neg hc, if_neg hc]; exact k
theorem lb {α β : Type} {x y : Option α} {f g : α → Option β} (h : Le x y) (k : ∀ a, Le (f a) (g a)) : Le (x >>= f) (y >>= g) := Le.bind h k
theorem lr {α : Type} {x : Option α} : Le x x := Le.rfl
theorem li {α : Type} {c : Prop} [Decidable c] {x y x' y' : Option α} (h : Le x x') (k : Le y y') : Le (if c then x else y) (if c then x' else y') := Le.ite h k
theorem rnd_le {U α : Type} {φ φ' : U → α → Option (U × Option Nat)} (h : ∀ u x, Le (φ' u x) (φ u x)) : ∀ s x, Le (rnd φ' s x) (rnd φ s x) := fun s x => by
  unfold rnd
  split
  · exact Le.rfl
  · exact Le.bind (h _ _) fun _ => Le.rfl
def slices_IndexFunc_api_Zone_k1_l22_e (fu : Nat) (a1 : List api_Zone) (v16 : Int) : Option (Sum Int Unit) := match fu with
  | 0 => none
  | fu + 1 => (if v16 < (a1.length : Int) then (if (0 : Int) ≤ v16 ∧ v16 < (a1.length : Int) then (zone_Valid_1 (a1.getD (Int.toNat v16) z_api_Zone) >>= fun y60 => (if y60 = true then some (Sum.inl v16) else slices_IndexFunc_api_Zone_k1_l22_e fu a1 (w64 (v16 + 1)))) else none) else some (Sum.inr ()))
theorem slices_IndexFunc_api_Zone_k1_l22_le {fu a1 v16} : Le (slices_IndexFunc_api_Zone_k1_l22_e fu a1 v16) (slices_IndexFunc_api_Zone_k1_l22 a1 v16) := by
  induction fu generalizing a1 v16 with
  | zero => exact Le.none
  | succ fu ih =>
    rw [slices_IndexFunc_api_Zone_k1_l22]
    exact (li (li (lb lr fun _ => (li lr ih)) lr) lr)
def slices_IndexFunc_api_Zone_k1_e (fu : Nat) (a1 : List api_Zone) : Option (Int) :=
  (slices_IndexFunc_api_Zone_k1_l22_e fu a1 0 >>= fun o32 => match o32 with | (Sum.inl v23) => some v23 | (Sum.inr _) => some (-1))
theorem slices_IndexFunc_api_Zone_k1_le {fu a1} : Le (slices_IndexFunc_api_Zone_k1_e fu a1) (slices_IndexFunc_api_Zone_k1 a1) := by
  unfold slices_IndexFunc_api_Zone_k1_e slices_IndexFunc_api_Zone_k1
  exact (lb slices_IndexFunc_api_Zone_k1_l22_le fun o32 => (match o32 with | (Sum.inl v23) => lr | (Sum.inr _) => lr))
def slices_ContainsFunc_api_Zone_k1_e (fu : Nat) (a1 : List api_Zone) : Option (Bool) :=
  (slices_IndexFunc_api_Zone_k1_e fu a1 >>= fun y15 => some (decide (0 ≤ y15)))
theorem slices_ContainsFunc_api_Zone_k1_le {fu a1} : Le (slices_ContainsFunc_api_Zone_k1_e fu a1) (slices_ContainsFunc_api_Zone_k1 a1) := by
  unfold slices_ContainsFunc_api_Zone_k1_e slices_ContainsFunc_api_Zone_k1
  exact (lb slices_IndexFunc_api_Zone_k1_le fun _ => lr)
def zone_Valid_e (fu : Nat) (a1 : List api_Zone) : Option (Bool) :=
  ((if (a1.length : Int) ≤ 1000 then (slices_ContainsFunc_api_Zone_k1_e fu a1 >>= fun y22 => some (!y22)) else some false) >>= fun v10 => some v10)
theorem zone_Valid_le {fu a1} : Le (zone_Valid_e fu a1) (zone_Valid a1) := by
  unfold zone_Valid_e zone_Valid
  exact (lb (li (lb slices_ContainsFunc_api_Zone_k1_le fun _ => lr) lr) fun _ => lr)
def slices_IndexFunc_api_Zone_k2_l25_e (fu : Nat) (a1 : List api_Zone) (a8 : api_Reader) (v19 : Int) : Option (Sum Int Unit) := match fu with
  | 0 => none
  | fu + 1 => (if v19 < (a1.length : Int) then (if (0 : Int) ≤ v19 ∧ v19 < (a1.length : Int) then (zone_Has_1_k1 (a1.getD (Int.toNat v19) z_api_Zone) a8 >>= fun y63 => (if y63 = true then some (Sum.inl v19) else slices_IndexFunc_api_Zone_k2_l25_e fu a1 a8 (w64 (v19 + 1)))) else none) else some (Sum.inr ()))
theorem slices_IndexFunc_api_Zone_k2_l25_le {fu a1 a8 v19} : Le (slices_IndexFunc_api_Zone_k2_l25_e fu a1 a8 v19) (slices_IndexFunc_api_Zone_k2_l25 a1 a8 v19) := by
  induction fu generalizing a1 a8 v19 with
  | zero => exact Le.none
  | succ fu ih =>
    rw [slices_IndexFunc_api_Zone_k2_l25]
    exact (li (li (lb lr fun _ => (li lr ih)) lr) lr)
def slices_IndexFunc_api_Zone_k2_e (fu : Nat) (a1 : List api_Zone) (a8 : api_Reader) : Option (Int) :=
  (slices_IndexFunc_api_Zone_k2_l25_e fu a1 a8 0 >>= fun o35 => match o35 with | (Sum.inl v26) => some v26 | (Sum.inr _) => some (-1))
theorem slices_IndexFunc_api_Zone_k2_le {fu a1 a8} : Le (slices_IndexFunc_api_Zone_k2_e fu a1 a8) (slices_IndexFunc_api_Zone_k2 a1 a8) := by
  unfold slices_IndexFunc_api_Zone_k2_e slices_IndexFunc_api_Zone_k2
  exact (lb slices_IndexFunc_api_Zone_k2_l25_le fun o35 => (match o35 with | (Sum.inl v26) => lr | (Sum.inr _) => lr))
def slices_ContainsFunc_api_Zone_k2_e (fu : Nat) (a1 : List api_Zone) (a8 : api_Reader) : Option (Bool) :=
  (slices_IndexFunc_api_Zone_k2_e fu a1 a8 >>= fun y18 => some (decide (0 ≤ y18)))
theorem slices_ContainsFunc_api_Zone_k2_le {fu a1 a8} : Le (slices_ContainsFunc_api_Zone_k2_e fu a1 a8) (slices_ContainsFunc_api_Zone_k2 a1 a8) := by
  unfold slices_ContainsFunc_api_Zone_k2_e slices_ContainsFunc_api_Zone_k2
  exact (lb slices_IndexFunc_api_Zone_k2_le fun _ => lr)
def zone_Has_e (fu : Nat) (a1 : List api_Zone) (a6 : api_Reader) : Option (Bool × Int) :=
  (zone_Valid_e fu a1 >>= fun y22 => ((if (!y22) = true then some true else (zone_one a6 >>= fun y35 => (zone_valid y35 >>= fun y41 => some (!y41)))) >>= fun v23 => (if v23 = true then some (false, 1) else (slices_ContainsFunc_api_Zone_k2_e fu a1 a6 >>= fun y53 => some (y53, 0)))))
theorem zone_Has_le {fu a1 a6} : Le (zone_Has_e fu a1 a6) (zone_Has a1 a6) := by
  unfold zone_Has_e zone_Has
  exact (lb zone_Valid_le fun _ => (lb (li lr (lb lr fun _ => (lb lr fun _ => lr))) fun _ => (li lr (lb slices_ContainsFunc_api_Zone_k2_le fun _ => lr))))
def pages_isReader_e (fu : Nat) (a1 : api_Reader) : Option (Bool) :=
  (zone_Has_e fu ([] : List api_Zone) a1 >>= fun (y15, y16) => some (decide (y16 = 0)))
theorem pages_isReader_le {fu a1} : Le (pages_isReader_e fu a1) (pages_isReader a1) := by
  unfold pages_isReader_e pages_isReader
  exact (lb zone_Has_le fun _ => lr)
def pages_sheet_valid_e (fu : Nat) (a1 : pages_sheet) : Option (Bool) :=
  (pages_within a1.Paper.Columns 1 8 >>= fun y15 => ((if y15 = true then (pages_within a1.Paper.Gap 0 1000 >>= fun y28 => some y28) else some false) >>= fun v16 => ((if v16 = true then (pages_within a1.Paper.Width 1 100000 >>= fun y41 => some y41) else some false) >>= fun v29 => ((if v29 = true then (pages_within a1.Paper.Height 1 1000000 >>= fun y54 => some y54) else some false) >>= fun v42 => ((if v42 = true then (pages_sheet_reader a1 >>= fun y67 => (pages_isReader_e fu y67 >>= fun y73 => some y73)) else some false) >>= fun v55 => some v55)))))
theorem pages_sheet_valid_le {fu a1} : Le (pages_sheet_valid_e fu a1) (pages_sheet_valid a1) := by
  unfold pages_sheet_valid_e pages_sheet_valid
  exact (lb lr fun _ => (lb (li (lb lr fun _ => lr) lr) fun _ => (lb (li (lb lr fun _ => lr) lr) fun _ => (lb (li (lb lr fun _ => lr) lr) fun _ => (lb (li (lb lr fun _ => (lb pages_isReader_le fun _ => lr)) lr) fun _ => lr)))))
def slices_IndexFunc_int_k1_l22_e (fu : Nat) (a1 : List Int) (v16 : Int) : Option (Sum Int Unit) := match fu with
  | 0 => none
  | fu + 1 => (if v16 < (a1.length : Int) then (if (0 : Int) ≤ v16 ∧ v16 < (a1.length : Int) then (pages_areCoords_1 (a1.getD (Int.toNat v16) (0 : Int)) >>= fun y60 => (if y60 = true then some (Sum.inl v16) else slices_IndexFunc_int_k1_l22_e fu a1 (w64 (v16 + 1)))) else none) else some (Sum.inr ()))
theorem slices_IndexFunc_int_k1_l22_le {fu a1 v16} : Le (slices_IndexFunc_int_k1_l22_e fu a1 v16) (slices_IndexFunc_int_k1_l22 a1 v16) := by
  induction fu generalizing a1 v16 with
  | zero => exact Le.none
  | succ fu ih =>
    rw [slices_IndexFunc_int_k1_l22]
    exact (li (li (lb lr fun _ => (li lr ih)) lr) lr)
def slices_IndexFunc_int_k1_e (fu : Nat) (a1 : List Int) : Option (Int) :=
  (slices_IndexFunc_int_k1_l22_e fu a1 0 >>= fun o32 => match o32 with | (Sum.inl v23) => some v23 | (Sum.inr _) => some (-1))
theorem slices_IndexFunc_int_k1_le {fu a1} : Le (slices_IndexFunc_int_k1_e fu a1) (slices_IndexFunc_int_k1 a1) := by
  unfold slices_IndexFunc_int_k1_e slices_IndexFunc_int_k1
  exact (lb slices_IndexFunc_int_k1_l22_le fun o32 => (match o32 with | (Sum.inl v23) => lr | (Sum.inr _) => lr))
def slices_ContainsFunc_int_k1_e (fu : Nat) (a1 : List Int) : Option (Bool) :=
  (slices_IndexFunc_int_k1_e fu a1 >>= fun y15 => some (decide (0 ≤ y15)))
theorem slices_ContainsFunc_int_k1_le {fu a1} : Le (slices_ContainsFunc_int_k1_e fu a1) (slices_ContainsFunc_int_k1 a1) := by
  unfold slices_ContainsFunc_int_k1_e slices_ContainsFunc_int_k1
  exact (lb slices_IndexFunc_int_k1_le fun _ => lr)
def pages_areCoords_e (fu : Nat) (a1 : List Int) : Option (Bool) :=
  (slices_ContainsFunc_int_k1_e fu a1 >>= fun y15 => some (!y15))
theorem pages_areCoords_le {fu a1} : Le (pages_areCoords_e fu a1) (pages_areCoords a1) := by
  unfold pages_areCoords_e pages_areCoords
  exact (lb slices_ContainsFunc_int_k1_le fun _ => lr)
def text_Valid_l22_e (fu : Nat) (a1 : ByteArray) (v16 : Nat) : Option (Sum Nat Nat) := match fu with
  | 0 => none
  | fu + 1 => (if v16 < a1.size then ((if 126 < ((Utf8.decode a1 v16).1 : Int) then some true else (text_Class (wu8 (((Utf8.decode a1 v16).1 : Int))) >>= fun y61 => some (decide (y61 = 0)))) >>= fun v49 => (if v49 = true then some (Sum.inl (v16 + (Utf8.decode a1 v16).2)) else text_Valid_l22_e fu a1 (v16 + (Utf8.decode a1 v16).2))) else some (Sum.inr v16))
theorem text_Valid_l22_le {fu a1 v16} : Le (text_Valid_l22_e fu a1 v16) (text_Valid_l22 a1 v16) := by
  induction fu generalizing a1 v16 with
  | zero => exact Le.none
  | succ fu ih =>
    rw [text_Valid_l22]
    exact (li (lb (li lr (lb lr fun _ => lr)) fun _ => (li lr ih)) lr)
def text_Valid_e (fu : Nat) (a1 : ByteArray) : Option (Bool) :=
  (text_Valid_l22_e fu a1 0 >>= fun o33 => match o33 with | (Sum.inl v23) => some false | (Sum.inr v24) => some (decide ((a1.size : Int) ≤ 2000)))
theorem text_Valid_le {fu a1} : Le (text_Valid_e fu a1) (text_Valid a1) := by
  unfold text_Valid_e text_Valid
  exact (lb text_Valid_l22_le fun o33 => (match o33 with | (Sum.inl v23) => lr | (Sum.inr v24) => lr))
def pages_canBreak_l41_e (fu : Nat) (a1 : List api_Slice) (v35 : Int) : Option (Sum Unit Unit) := match fu with
  | 0 => none
  | fu + 1 => (if v35 < (a1.length : Int) then (if (0 : Int) ≤ v35 ∧ v35 < (a1.length : Int) then ((pages_within ((a1.getD (Int.toNat v35) z_api_Slice).Node) 1 1000000 >>= fun y108 => (if (!y108) = true then some true else (pages_within ((a1.getD (Int.toNat v35) z_api_Slice).Table) 0 1000000 >>= fun y314 => (if (!y314) = true then some true else (pages_areCoords_e fu ([(a1.getD (Int.toNat v35) z_api_Slice).X, (a1.getD (Int.toNat v35) z_api_Slice).Y] : List Int) >>= fun y528 => (if (!y528) = true then some true else (pages_within ((a1.getD (Int.toNat v35) z_api_Slice).H) 0 1000000 >>= fun y736 => (if (!y736) = true then some true else (text_Valid_e fu ((a1.getD (Int.toNat v35) z_api_Slice).Text) >>= fun y944 => (if (!y944) = true then some true else (if 0 < v35 then (if (0 : Int) ≤ w64 (v35 - 1) ∧ w64 (v35 - 1) < (a1.length : Int) then some (decide (((a1.getD (Int.toNat v35) z_api_Slice).Y) < ((a1.getD (Int.toNat (w64 (v35 - 1))) z_api_Slice).Y))) else none) else some false))))))))))) >>= fun v98 => (if v98 = true then some (Sum.inl ()) else pages_canBreak_l41_e fu a1 (w64 (v35 + 1)))) else none) else some (Sum.inr ()))
theorem pages_canBreak_l41_le {fu a1 v35} : Le (pages_canBreak_l41_e fu a1 v35) (pages_canBreak_l41 a1 v35) := by
  induction fu generalizing a1 v35 with
  | zero => exact Le.none
  | succ fu ih =>
    rw [pages_canBreak_l41]
    exact (li (li (lb (lb lr fun _ => (li lr (lb lr fun _ => (li lr (lb pages_areCoords_le fun _ => (li lr (lb lr fun _ => (li lr (lb text_Valid_le fun _ => (li lr (li (li lr lr) lr))))))))))) fun _ => (li lr ih)) lr) lr)
def pages_canBreak_e (fu : Nat) (a1 : List api_Slice) (a6 : List Bool) : Option (Bool) :=
  ((if 10000 < (a1.length : Int) then some true else some (decide (¬ (a6.length : Int) = (a1.length : Int)))) >>= fun v17 => (if v17 = true then some false else (pages_canBreak_l41_e fu a1 0 >>= fun o50 => match o50 with | (Sum.inl _) => some false | (Sum.inr _) => some true)))
theorem pages_canBreak_le {fu a1 a6} : Le (pages_canBreak_e fu a1 a6) (pages_canBreak a1 a6) := by
  unfold pages_canBreak_e pages_canBreak
  exact (lb (li lr lr) fun _ => (li lr (lb pages_canBreak_l41_le fun o50 => (match o50 with | (Sum.inl _) => lr | (Sum.inr _) => lr))))
def pages_sum_l26_e (fu : Nat) (a1 : List api_Slice) (v18 : Int) (v19 : Int) : Option (Int) := match fu with
  | 0 => none
  | fu + 1 => (if v19 < (a1.length : Int) then (if (0 : Int) ≤ v19 ∧ v19 < (a1.length : Int) then pages_sum_l26_e fu a1 (w64 (v18 + ((a1.getD (Int.toNat v19) z_api_Slice).H))) (w64 (v19 + 1)) else none) else some v18)
theorem pages_sum_l26_le {fu a1 v18 v19} : Le (pages_sum_l26_e fu a1 v18 v19) (pages_sum_l26 a1 v18 v19) := by
  induction fu generalizing a1 v18 v19 with
  | zero => exact Le.none
  | succ fu ih =>
    rw [pages_sum_l26]
    exact (li (li ih lr) lr)
def pages_sum_e (fu : Nat) (a1 : List api_Slice) : Option (Int) :=
  (pages_sum_l26_e fu a1 0 0 >>= fun v27 => some v27)
theorem pages_sum_le {fu a1} : Le (pages_sum_e fu a1) (pages_sum a1) := by
  unfold pages_sum_e pages_sum
  exact (lb pages_sum_l26_le fun _ => lr)
def pages_open_put_k2_l271_e (fu : Nat) (a3 : pages_open) (a26 : List api_Slice) (a31 : Int) (a32 : Int) (y44 : Int) (v251 : Int) (v252 : List api_Slice) : Option ((List api_Slice)) := match fu with
  | 0 => none
  | fu + 1 => (if v251 < (a26.length : Int) then (if (0 : Int) ≤ v251 ∧ v251 < (a26.length : Int) then (if v252.length + 1 ≤ 2199023255552 then pages_open_put_k2_l271_e fu a3 a26 a31 a32 y44 (w64 (v251 + 1)) (v252 ++ [(⟨(a26.getD (Int.toNat v251) z_api_Slice).Node, (a26.getD (Int.toNat v251) z_api_Slice).Table, w64 (((a26.getD (Int.toNat v251) z_api_Slice).X) + (w64 ((w64 ((a3.fills.length : Int) - 1)) * (w64 (y44 + a3.sheet.Paper.Gap))))), w64 ((w64 (((a26.getD (Int.toNat v251) z_api_Slice).Y) - a31)) + a32), (a26.getD (Int.toNat v251) z_api_Slice).H, (a26.getD (Int.toNat v251) z_api_Slice).Text, (a26.getD (Int.toNat v251) z_api_Slice).Head, (a26.getD (Int.toNat v251) z_api_Slice).Note⟩ : api_Slice)]) else none) else none) else some v252)
theorem pages_open_put_k2_l271_le {fu a3 a26 a31 a32 y44 v251 v252} : Le (pages_open_put_k2_l271_e fu a3 a26 a31 a32 y44 v251 v252) (pages_open_put_k2_l271 a3 a26 a31 a32 y44 v251 v252) := by
  induction fu generalizing a3 a26 a31 a32 y44 v251 v252 with
  | zero => exact Le.none
  | succ fu ih =>
    rw [pages_open_put_k2_l271]
    exact (li (li (li ih lr) lr) lr)
def pages_open_put_k2_e (fu : Nat) (a3 : pages_open) (a26 : List api_Slice) (a31 : Int) (a32 : Int) : Option (pages_open) :=
  (pages_sheet_column a3.sheet >>= fun y44 => (pages_open_put_k2_l271_e fu a3 a26 a31 a32 y44 0 a3.placed >>= fun v272 => some (⟨a3.sheet, v272, a3.notes, a3.fills⟩ : pages_open)))
theorem pages_open_put_k2_le {fu a3 a26 a31 a32} : Le (pages_open_put_k2_e fu a3 a26 a31 a32) (pages_open_put_k2 a3 a26 a31 a32) := by
  unfold pages_open_put_k2_e pages_open_put_k2
  exact (lb lr fun _ => (lb pages_open_put_k2_l271_le fun _ => lr))
def pages_open_add_k3_e (fu : Nat) (a3 : pages_open) (a26 : pages_band) (a35 : Int) : Option (pages_open) :=
  (pages_band_top a26 >>= fun y55 => (pages_open_put_k2_e fu a3 a26.slices y55 a35 >>= fun y255 => (pages_band_height a26 >>= fun y473 => (if (0 : Int) ≤ w64 ((y255.fills.length : Int) - 1) ∧ w64 ((y255.fills.length : Int) - 1) < (y255.fills.length : Int) then (if y255.notes.length + a26.notes.length ≤ 2199023255552 then some (⟨y255.sheet, y255.placed, y255.notes ++ a26.notes, List.set y255.fills (Int.toNat (w64 ((y255.fills.length : Int) - 1))) (w64 (a35 + y473))⟩ : pages_open) else none) else none))))
theorem pages_open_add_k3_le {fu a3 a26 a35} : Le (pages_open_add_k3_e fu a3 a26 a35) (pages_open_add_k3 a3 a26 a35) := by
  unfold pages_open_add_k3_e pages_open_add_k3
  exact (lb lr fun _ => (lb pages_open_put_k2_le fun _ => (lb lr fun _ => (li (li lr lr) lr))))
def pages_begin_l199_e (fu : Nat) (a2 : pages_band) (a11 : List pages_band) (v68 : Int) (v177 : List api_Slice) (v184 : Int) (v185 : Int) : Option (Sum ((List api_Slice) × Int) ((List api_Slice) × Int)) := match fu with
  | 0 => none
  | fu + 1 => (if v185 < (((a11.getD (Int.toNat (w64 (v68 - 1))) z_pages_band).slices).length : Int) then ((if (0 : Int) ≤ v185 ∧ v185 < (((a11.getD (Int.toNat (w64 (v68 - 1))) z_pages_band).slices).length : Int) then ((if ((((a11.getD (Int.toNat (w64 (v68 - 1))) z_pages_band).slices).getD (Int.toNat v185) z_api_Slice).Head) = true then some (decide (v68 = 0)) else some false) >>= fun v270 => (if v270 = true then some (Sum.inl ()) else ((if ((((a11.getD (Int.toNat (w64 (v68 - 1))) z_pages_band).slices).getD (Int.toNat v185) z_api_Slice).Head) = true then some (decide (((((a11.getD (Int.toNat (w64 (v68 - 1))) z_pages_band).slices).getD (Int.toNat v185) z_api_Slice).Table) = ((a2.slices.getD (Int.toNat 0) z_api_Slice).Table))) else some false) >>= fun v298 => (if v298 = true then (if v177.length + 1 ≤ 2199023255552 then (if (0 : Int) ≤ 0 ∧ 0 < ((v177 ++ [(((a11.getD (Int.toNat (w64 (v68 - 1))) z_pages_band).slices).getD (Int.toNat v185) z_api_Slice)]).length : Int) then some (Sum.inr (v177 ++ [(((a11.getD (Int.toNat (w64 (v68 - 1))) z_pages_band).slices).getD (Int.toNat v185) z_api_Slice)], max v184 (w64 ((w64 (((((a11.getD (Int.toNat (w64 (v68 - 1))) z_pages_band).slices).getD (Int.toNat v185) z_api_Slice).Y) + ((((a11.getD (Int.toNat (w64 (v68 - 1))) z_pages_band).slices).getD (Int.toNat v185) z_api_Slice).H))) - (((v177 ++ [(((a11.getD (Int.toNat (w64 (v68 - 1))) z_pages_band).slices).getD (Int.toNat v185) z_api_Slice)]).getD (Int.toNat 0) z_api_Slice).Y))))) else none) else none) else some (Sum.inr (v177, v184)))))) else none) >>= fun o252 => match o252 with | (Sum.inl _) => some (Sum.inl (v177, v184)) | (Sum.inr (v236, v243)) => pages_begin_l199_e fu a2 a11 v68 v236 v243 (w64 (v185 + 1))) else some (Sum.inr (v177, v184)))
theorem pages_begin_l199_le {fu a2 a11 v68 v177 v184 v185} : Le (pages_begin_l199_e fu a2 a11 v68 v177 v184 v185) (pages_begin_l199 a2 a11 v68 v177 v184 v185) := by
  induction fu generalizing a2 a11 v68 v177 v184 v185 with
  | zero => exact Le.none
  | succ fu ih =>
    rw [pages_begin_l199]
    exact (li (lb (li (lb (li lr lr) fun _ => (li lr (lb (li lr lr) fun _ => (li (li (li lr lr) lr) lr)))) lr) fun o252 => (match o252 with | (Sum.inl _) => lr | (Sum.inr (v236, v243)) => ih)) lr)
def pages_begin_l380_e (fu : Nat) (a2 : pages_band) (v68 : Int) (v358 : List api_Slice) (v365 : Int) (v366 : Int) : Option (Sum ((List api_Slice) × Int) ((List api_Slice) × Int)) := match fu with
  | 0 => none
  | fu + 1 => (if v366 < (a2.slices.length : Int) then ((if (0 : Int) ≤ v366 ∧ v366 < (a2.slices.length : Int) then ((if ((a2.slices.getD (Int.toNat v366) z_api_Slice).Head) = true then some (decide (v68 = 0)) else some false) >>= fun v451 => (if v451 = true then some (Sum.inl ()) else ((if ((a2.slices.getD (Int.toNat v366) z_api_Slice).Head) = true then some (decide (((a2.slices.getD (Int.toNat v366) z_api_Slice).Table) = ((a2.slices.getD (Int.toNat 0) z_api_Slice).Table))) else some false) >>= fun v479 => (if v479 = true then (if v358.length + 1 ≤ 2199023255552 then (if (0 : Int) ≤ 0 ∧ 0 < ((v358 ++ [(a2.slices.getD (Int.toNat v366) z_api_Slice)]).length : Int) then some (Sum.inr (v358 ++ [(a2.slices.getD (Int.toNat v366) z_api_Slice)], max v365 (w64 ((w64 (((a2.slices.getD (Int.toNat v366) z_api_Slice).Y) + ((a2.slices.getD (Int.toNat v366) z_api_Slice).H))) - (((v358 ++ [(a2.slices.getD (Int.toNat v366) z_api_Slice)]).getD (Int.toNat 0) z_api_Slice).Y))))) else none) else none) else some (Sum.inr (v358, v365)))))) else none) >>= fun o433 => match o433 with | (Sum.inl _) => some (Sum.inl (v358, v365)) | (Sum.inr (v417, v424)) => pages_begin_l380_e fu a2 v68 v417 v424 (w64 (v366 + 1))) else some (Sum.inr (v358, v365)))
theorem pages_begin_l380_le {fu a2 v68 v358 v365 v366} : Le (pages_begin_l380_e fu a2 v68 v358 v365 v366) (pages_begin_l380 a2 v68 v358 v365 v366) := by
  induction fu generalizing a2 v68 v358 v365 v366 with
  | zero => exact Le.none
  | succ fu ih =>
    rw [pages_begin_l380]
    exact (li (lb (li (lb (li lr lr) fun _ => (li lr (lb (li lr lr) fun _ => (li (li (li lr lr) lr) lr)))) lr) fun o433 => (match o433 with | (Sum.inl _) => lr | (Sum.inr (v417, v424)) => ih)) lr)
def pages_begin_l82_e (fu : Nat) (a2 : pages_band) (a11 : List pages_band) (v60 : List api_Slice) (v67 : Int) (v68 : Int) : Option ((List api_Slice) × Int) := match fu with
  | 0 => none
  | fu + 1 => ((if v68 ≤ (a11.length : Int) then some (decide (¬ ((a2.slices.getD (Int.toNat 0) z_api_Slice).Table) = 0)) else some false) >>= fun v104 => (if v104 = true then ((if 0 < v68 then (if (0 : Int) ≤ w64 (v68 - 1) ∧ w64 (v68 - 1) < (a11.length : Int) then (pages_begin_l199_e fu a2 a11 v68 v60 v67 0 >>= fun o224 => match o224 with | (Sum.inl (v200, v207)) => some (Sum.inl (v200, v207)) | (Sum.inr (v208, v215)) => some (Sum.inr (v208, v215))) else none) else (pages_begin_l380_e fu a2 v68 v60 v67 0 >>= fun o405 => match o405 with | (Sum.inl (v381, v388)) => some (Sum.inl (v381, v388)) | (Sum.inr (v389, v396)) => some (Sum.inr (v389, v396)))) >>= fun o148 => match o148 with | (Sum.inl (v124, v131)) => some (v124, v131) | (Sum.inr (v132, v139)) => pages_begin_l82_e fu a2 a11 v132 v139 (w64 (v68 + 1))) else some (v60, v67)))
theorem pages_begin_l82_le {fu a2 a11 v60 v67 v68} : Le (pages_begin_l82_e fu a2 a11 v60 v67 v68) (pages_begin_l82 a2 a11 v60 v67 v68) := by
  induction fu generalizing a2 a11 v60 v67 v68 with
  | zero => exact Le.none
  | succ fu ih =>
    rw [pages_begin_l82]
    exact (lb (li lr lr) fun _ => (li (lb (li (li (lb pages_begin_l199_le fun o224 => (match o224 with | (Sum.inl (v200, v207)) => lr | (Sum.inr (v208, v215)) => lr)) lr) (lb pages_begin_l380_le fun o405 => (match o405 with | (Sum.inl (v381, v388)) => lr | (Sum.inr (v389, v396)) => lr))) fun o148 => (match o148 with | (Sum.inl (v124, v131)) => lr | (Sum.inr (v132, v139)) => ih)) lr))
def pages_begin_e (fu : Nat) (a1 : pages_sheet) (a2 : pages_band) (a11 : List pages_band) : Option (pages_open) :=
  (if (0 : Int) ≤ 0 ∧ 0 < (a2.slices.length : Int) then (pages_begin_l82_e fu a2 a11 ([] : List api_Slice) 0 0 >>= fun (v83, v90) => ((if 0 < (v83.length : Int) then (pages_band_height a2 >>= fun y562 => (pages_sum_e fu a2.notes >>= fun y564 => some (decide ((w64 (v90 + y562)) ≤ (w64 (a1.Paper.Height - y564)))))) else some false) >>= fun v550 => (if v550 = true then (if (0 : Int) ≤ 0 ∧ 0 < (v83.length : Int) then (pages_open_put_k2_e fu (⟨a1, ([] : List api_Slice), ([] : List api_Slice), ([0] : List Int)⟩ : pages_open) v83 ((v83.getD (Int.toNat 0) z_api_Slice).Y) 0 >>= fun y600 => (pages_open_add_k3_e fu y600 a2 v90 >>= fun y630 => some y630)) else none) else (pages_open_add_k3_e fu (⟨a1, ([] : List api_Slice), ([] : List api_Slice), ([0] : List Int)⟩ : pages_open) a2 0 >>= fun y675 => some y675)))) else none)
theorem pages_begin_le {fu a1 a2 a11} : Le (pages_begin_e fu a1 a2 a11) (pages_begin a1 a2 a11) := by
  unfold pages_begin_e pages_begin
  exact (li (lb pages_begin_l82_le fun _ => (lb (li (lb lr fun _ => (lb pages_sum_le fun _ => lr)) lr) fun _ => (li (li (lb pages_open_put_k2_le fun _ => (lb pages_open_add_k3_le fun _ => lr)) lr) (lb pages_open_add_k3_le fun _ => lr)))) lr)
def pages_bands_1_k1_l75_e (fu : Nat) {σ : Type} (φ : σ → pages_band → Option (σ × Bool)) (a3 : List api_Slice) (a10 : List Bool) (v31 : Bool) (v32 : Int) (v33 : List api_Slice) (v40 : List api_Slice) (v47 : Int) (v49 : σ) : Option (Sum ((List api_Slice) × (List api_Slice) × Int × σ) ((List api_Slice) × (List api_Slice) × Int × σ)) := match fu with
  | 0 => none
  | fu + 1 => (if v32 < (a3.length : Int) then ((if (0 : Int) ≤ v32 ∧ v32 < (a3.length : Int) then (if ((a3.getD (Int.toNat v32) z_api_Slice).Note) = true then (if v40.length + 1 ≤ 2199023255552 then some (Sum.inr (v31, v33, v40 ++ [(a3.getD (Int.toNat v32) z_api_Slice)], v47, v49)) else none) else ((if 0 < (v33.length : Int) then some (decide (v47 ≤ ((a3.getD (Int.toNat v32) z_api_Slice).Y))) else some false) >>= fun v211 => ((if v211 = true then some (!v31) else some false) >>= fun v218 => (if v218 = true then (φ v49 (⟨v33, v40, v47⟩ : pages_band) >>= fun (s230, b231) => (if (!b231) = true then some (Sum.inl s230) else (if (([] : List api_Slice).length : Int) = 0 then (if ([] : List api_Slice).length + 1 ≤ 2199023255552 then (if (0 : Int) ≤ v32 ∧ v32 < (a10.length : Int) then some (Sum.inr (a10.getD (Int.toNat v32) false, ([] : List api_Slice) ++ [(a3.getD (Int.toNat v32) z_api_Slice)], ([] : List api_Slice), max ((a3.getD (Int.toNat v32) z_api_Slice).Y) (w64 (((a3.getD (Int.toNat v32) z_api_Slice).Y) + ((a3.getD (Int.toNat v32) z_api_Slice).H))), s230)) else none) else none) else (if ([] : List api_Slice).length + 1 ≤ 2199023255552 then (if (0 : Int) ≤ v32 ∧ v32 < (a10.length : Int) then some (Sum.inr (a10.getD (Int.toNat v32) false, ([] : List api_Slice) ++ [(a3.getD (Int.toNat v32) z_api_Slice)], ([] : List api_Slice), max 0 (w64 (((a3.getD (Int.toNat v32) z_api_Slice).Y) + ((a3.getD (Int.toNat v32) z_api_Slice).H))), s230)) else none) else none)))) else (if (v33.length : Int) = 0 then (if v33.length + 1 ≤ 2199023255552 then (if (0 : Int) ≤ v32 ∧ v32 < (a10.length : Int) then some (Sum.inr (a10.getD (Int.toNat v32) false, v33 ++ [(a3.getD (Int.toNat v32) z_api_Slice)], v40, max ((a3.getD (Int.toNat v32) z_api_Slice).Y) (w64 (((a3.getD (Int.toNat v32) z_api_Slice).Y) + ((a3.getD (Int.toNat v32) z_api_Slice).H))), v49)) else none) else none) else (if v33.length + 1 ≤ 2199023255552 then (if (0 : Int) ≤ v32 ∧ v32 < (a10.length : Int) then some (Sum.inr (a10.getD (Int.toNat v32) false, v33 ++ [(a3.getD (Int.toNat v32) z_api_Slice)], v40, max v47 (w64 (((a3.getD (Int.toNat v32) z_api_Slice).Y) + ((a3.getD (Int.toNat v32) z_api_Slice).H))), v49)) else none) else none)))))) else none) >>= fun o162 => match o162 with | (Sum.inl v133) => some (Sum.inl (v33, v40, v47, v133)) | (Sum.inr (v135, v136, v143, v150, v152)) => pages_bands_1_k1_l75_e fu φ a3 a10 v135 (w64 (v32 + 1)) v136 v143 v150 v152) else some (Sum.inr (v33, v40, v47, v49)))
theorem pages_bands_1_k1_l75_le {fu σ φ a3 a10 v31 v32 v33 v40 v47 v49} {φ' : σ → pages_band → Option (σ × Bool)} (hφ : ∀ s x, Le (φ' s x) (φ s x)) : Le (pages_bands_1_k1_l75_e fu φ' a3 a10 v31 v32 v33 v40 v47 v49) (pages_bands_1_k1_l75 φ a3 a10 v31 v32 v33 v40 v47 v49) := by
  induction fu generalizing a3 a10 v31 v32 v33 v40 v47 v49 with
  | zero => exact Le.none
  | succ fu ih =>
    rw [pages_bands_1_k1_l75]
    exact (li (lb (li (li (li lr lr) (lb (li lr lr) fun _ => (lb (li lr lr) fun _ => (li (lb (hφ _ _) fun _ => (li lr (li (li (li lr lr) lr) (li (li lr lr) lr)))) (li (li (li lr lr) lr) (li (li lr lr) lr)))))) lr) fun o162 => (match o162 with | (Sum.inl v133) => lr | (Sum.inr (v135, v136, v143, v150, v152)) => ih)) lr)
def pages_bands_1_k1_e (fu : Nat) {σ : Type} (φ : σ → pages_band → Option (σ × Bool)) (sy : σ) (a3 : List api_Slice) (a10 : List Bool) : Option (σ) :=
  (pages_bands_1_k1_l75_e fu φ a3 a10 false 0 ([] : List api_Slice) ([] : List api_Slice) 0 sy >>= fun o120 => match o120 with | (Sum.inl (v76, v83, v90, v92)) => some v92 | (Sum.inr (v94, v101, v108, v110)) => (if 0 < (w64 ((v94.length : Int) + (v101.length : Int))) then (φ v110 (⟨v94, v101, v108⟩ : pages_band) >>= fun (s478, b479) => some s478) else some v110))
theorem pages_bands_1_k1_le {fu σ φ sy a3 a10} {φ' : σ → pages_band → Option (σ × Bool)} (hφ : ∀ s x, Le (φ' s x) (φ s x)) : Le (pages_bands_1_k1_e fu φ' sy a3 a10) (pages_bands_1_k1 φ sy a3 a10) := by
  unfold pages_bands_1_k1_e pages_bands_1_k1
  exact (lb (pages_bands_1_k1_l75_le hφ) fun o120 => (match o120 with | (Sum.inl (v76, v83, v90, v92)) => lr | (Sum.inr (v94, v101, v108, v110)) => (li (lb (hφ _ _) fun _ => lr) lr)))
def pages_open_high_k1_l46_e (fu : Nat) (a3 : pages_open) (v38 : Int) (v39 : Int) : Option (Int) := match fu with
  | 0 => none
  | fu + 1 => (if v39 < (a3.fills.length : Int) then (if (0 : Int) ≤ v39 ∧ v39 < (a3.fills.length : Int) then pages_open_high_k1_l46_e fu a3 (max v38 (a3.fills.getD (Int.toNat v39) (0 : Int))) (w64 (v39 + 1)) else none) else some v38)
theorem pages_open_high_k1_l46_le {fu a3 v38 v39} : Le (pages_open_high_k1_l46_e fu a3 v38 v39) (pages_open_high_k1_l46 a3 v38 v39) := by
  induction fu generalizing a3 v38 v39 with
  | zero => exact Le.none
  | succ fu ih =>
    rw [pages_open_high_k1_l46]
    exact (li (li ih lr) lr)
def pages_open_high_k1_e (fu : Nat) (a3 : pages_open) : Option (Int) :=
  (pages_open_high_k1_l46_e fu a3 0 0 >>= fun v47 => some v47)
theorem pages_open_high_k1_le {fu a3} : Le (pages_open_high_k1_e fu a3) (pages_open_high_k1 a3) := by
  unfold pages_open_high_k1_e pages_open_high_k1
  exact (lb pages_open_high_k1_l46_le fun _ => lr)
def pages_open_take_k1_e (fu : Nat) (a3 : pages_open) (a26 : pages_band) (a35 : Int) : Option (Bool × pages_open) :=
  (pages_sum_e fu a3.notes >>= fun y53 => (pages_sum_e fu a26.notes >>= fun y253 => (if (0 : Int) ≤ w64 ((a3.fills.length : Int) - 1) ∧ w64 ((a3.fills.length : Int) - 1) < (a3.fills.length : Int) then ((pages_open_high_k1_e fu a3 >>= fun y526 => (if (w64 ((w64 (a3.sheet.Paper.Height - y53)) - y253)) < y526 then some (Sum.inr ()) else (pages_band_height a26 >>= fun y542 => (if (w64 ((w64 ((a3.fills.getD (Int.toNat (w64 ((a3.fills.length : Int) - 1))) (0 : Int)) + a35)) + y542)) ≤ (w64 ((w64 (a3.sheet.Paper.Height - y53)) - y253)) then (pages_open_add_k3_e fu a3 a26 (w64 ((a3.fills.getD (Int.toNat (w64 ((a3.fills.length : Int) - 1))) (0 : Int)) + a35)) >>= fun y549 => some (Sum.inl (y549.sheet.Paper.Width, y549.sheet.Paper.Height, y549.sheet.Paper.Columns, y549.sheet.Paper.Gap, y549.sheet.Paper.Scale, y549.sheet.Paper.Lang, y549.placed, y549.notes, y549.fills))) else ((if (a3.fills.length : Int) < a3.sheet.Paper.Columns then (pages_band_height a26 >>= fun y595 => some (decide (y595 ≤ (w64 ((w64 (a3.sheet.Paper.Height - y53)) - y253))))) else some false) >>= fun v584 => (if v584 = true then (if a3.fills.length + 1 ≤ 17592186044416 then (pages_open_add_k3_e fu (⟨a3.sheet, a3.placed, a3.notes, a3.fills ++ [0]⟩ : pages_open) a26 0 >>= fun y839 => some (Sum.inl (y839.sheet.Paper.Width, y839.sheet.Paper.Height, y839.sheet.Paper.Columns, y839.sheet.Paper.Gap, y839.sheet.Paper.Scale, y839.sheet.Paper.Lang, y839.placed, y839.notes, y839.fills))) else none) else some (Sum.inr ()))))))) >>= fun o513 => match o513 with | (Sum.inl (v474, v475, v476, v477, v478, v479, v480, v487, v494)) => some (true, (⟨(⟨(⟨v474, v475, v476, v477, v478, v479⟩ : api_Paper)⟩ : pages_sheet), v480, v487, v494⟩ : pages_open)) | (Sum.inr _) => some (false, a3)) else none)))
theorem pages_open_take_k1_le {fu a3 a26 a35} : Le (pages_open_take_k1_e fu a3 a26 a35) (pages_open_take_k1 a3 a26 a35) := by
  unfold pages_open_take_k1_e pages_open_take_k1
  exact (lb pages_sum_le fun _ => (lb pages_sum_le fun _ => (li (lb (lb pages_open_high_k1_le fun _ => (li lr (lb lr fun _ => (li (lb pages_open_add_k3_le fun _ => lr) (lb (li (lb lr fun _ => lr) lr) fun _ => (li (li (lb pages_open_add_k3_le fun _ => lr) lr) lr)))))) fun o513 => (match o513 with | (Sum.inl (v474, v475, v476, v477, v478, v479, v480, v487, v494)) => lr | (Sum.inr _) => lr)) lr)))
def pages_open_close_k1_l494_e (fu : Nat) (a3 : pages_open) (v472 : Int) (v473 : Int) (v474 : List api_Slice) : Option ((List api_Slice)) := match fu with
  | 0 => none
  | fu + 1 => (if v473 < (a3.notes.length : Int) then (if (0 : Int) ≤ v473 ∧ v473 < (a3.notes.length : Int) then (if v474.length + 1 ≤ 2199023255552 then pages_open_close_k1_l494_e fu a3 (w64 (v472 + ((a3.notes.getD (Int.toNat v473) z_api_Slice).H))) (w64 (v473 + 1)) (v474 ++ [(⟨(a3.notes.getD (Int.toNat v473) z_api_Slice).Node, (a3.notes.getD (Int.toNat v473) z_api_Slice).Table, (a3.notes.getD (Int.toNat v473) z_api_Slice).X, v472, (a3.notes.getD (Int.toNat v473) z_api_Slice).H, (a3.notes.getD (Int.toNat v473) z_api_Slice).Text, (a3.notes.getD (Int.toNat v473) z_api_Slice).Head, (a3.notes.getD (Int.toNat v473) z_api_Slice).Note⟩ : api_Slice)]) else none) else none) else some v474)
theorem pages_open_close_k1_l494_le {fu a3 v472 v473 v474} : Le (pages_open_close_k1_l494_e fu a3 v472 v473 v474) (pages_open_close_k1_l494 a3 v472 v473 v474) := by
  induction fu generalizing a3 v472 v473 v474 with
  | zero => exact Le.none
  | succ fu ih =>
    rw [pages_open_close_k1_l494]
    exact (li (li (li ih lr) lr) lr)
def pages_open_close_k1_e (fu : Nat) (a3 : pages_open) (a26 : Int) : Option (api_Page) :=
  (pages_sum_e fu a3.notes >>= fun y44 => (pages_open_high_k1_e fu a3 >>= fun y244 => (pages_open_close_k1_l494_e fu a3 (max (w64 (a3.sheet.Paper.Height - y44)) y244) 0 a3.placed >>= fun v495 => some (⟨a26, v495⟩ : api_Page))))
theorem pages_open_close_k1_le {fu a3 a26} : Le (pages_open_close_k1_e fu a3 a26) (pages_open_close_k1 a3 a26) := by
  unfold pages_open_close_k1_e pages_open_close_k1
  exact (lb pages_sum_le fun _ => (lb pages_open_high_k1_le fun _ => (lb pages_open_close_k1_l494_le fun _ => lr)))
def pages_Break_1_k2_e (fu : Nat) (a3 : Option pages_open) (a32 : List api_Page) : Option ((List api_Page)) :=
  (match a3 with | none => some a32 | some x4 => (pages_open_close_k1_e fu x4 (w64 ((a32.length : Int) + 1)) >>= fun y57 => (if a32.length + 1 ≤ 4398046511104 then some (a32 ++ [y57]) else none)))
theorem pages_Break_1_k2_le {fu a3 a32} : Le (pages_Break_1_k2_e fu a3 a32) (pages_Break_1_k2 a3 a32) := by
  unfold pages_Break_1_k2_e pages_Break_1_k2
  exact (match a3 with | none => lr | some x4 => (lb pages_open_close_k1_le fun _ => (li lr lr)))
def pages_open_high_k2_l44_e (fu : Nat) (a3 : pages_open) (v36 : Int) (v37 : Int) : Option (Int) := match fu with
  | 0 => none
  | fu + 1 => (if v37 < (a3.fills.length : Int) then (if (0 : Int) ≤ v37 ∧ v37 < (a3.fills.length : Int) then pages_open_high_k2_l44_e fu a3 (max v36 (a3.fills.getD (Int.toNat v37) (0 : Int))) (w64 (v37 + 1)) else none) else some v36)
theorem pages_open_high_k2_l44_le {fu a3 v36 v37} : Le (pages_open_high_k2_l44_e fu a3 v36 v37) (pages_open_high_k2_l44 a3 v36 v37) := by
  induction fu generalizing a3 v36 v37 with
  | zero => exact Le.none
  | succ fu ih =>
    rw [pages_open_high_k2_l44]
    exact (li (li ih lr) lr)
def pages_open_high_k2_e (fu : Nat) (a3 : pages_open) : Option (Int) :=
  (pages_open_high_k2_l44_e fu a3 0 0 >>= fun v45 => some v45)
theorem pages_open_high_k2_le {fu a3} : Le (pages_open_high_k2_e fu a3) (pages_open_high_k2 a3) := by
  unfold pages_open_high_k2_e pages_open_high_k2
  exact (lb pages_open_high_k2_l44_le fun _ => lr)
def pages_open_close_k2_l490_e (fu : Nat) (a3 : pages_open) (v468 : Int) (v469 : Int) (v470 : List api_Slice) : Option ((List api_Slice)) := match fu with
  | 0 => none
  | fu + 1 => (if v469 < (a3.notes.length : Int) then (if (0 : Int) ≤ v469 ∧ v469 < (a3.notes.length : Int) then (if v470.length + 1 ≤ 2199023255552 then pages_open_close_k2_l490_e fu a3 (w64 (v468 + ((a3.notes.getD (Int.toNat v469) z_api_Slice).H))) (w64 (v469 + 1)) (v470 ++ [(⟨(a3.notes.getD (Int.toNat v469) z_api_Slice).Node, (a3.notes.getD (Int.toNat v469) z_api_Slice).Table, (a3.notes.getD (Int.toNat v469) z_api_Slice).X, v468, (a3.notes.getD (Int.toNat v469) z_api_Slice).H, (a3.notes.getD (Int.toNat v469) z_api_Slice).Text, (a3.notes.getD (Int.toNat v469) z_api_Slice).Head, (a3.notes.getD (Int.toNat v469) z_api_Slice).Note⟩ : api_Slice)]) else none) else none) else some v470)
theorem pages_open_close_k2_l490_le {fu a3 v468 v469 v470} : Le (pages_open_close_k2_l490_e fu a3 v468 v469 v470) (pages_open_close_k2_l490 a3 v468 v469 v470) := by
  induction fu generalizing a3 v468 v469 v470 with
  | zero => exact Le.none
  | succ fu ih =>
    rw [pages_open_close_k2_l490]
    exact (li (li (li ih lr) lr) lr)
def pages_open_close_k2_e (fu : Nat) (a3 : pages_open) (a24 : Int) : Option (api_Page) :=
  (pages_sum_e fu a3.notes >>= fun y42 => (pages_open_high_k2_e fu a3 >>= fun y242 => (pages_open_close_k2_l490_e fu a3 (max (w64 (a3.sheet.Paper.Height - y42)) y242) 0 a3.placed >>= fun v491 => some (⟨a24, v491⟩ : api_Page))))
theorem pages_open_close_k2_le {fu a3 a24} : Le (pages_open_close_k2_e fu a3 a24) (pages_open_close_k2 a3 a24) := by
  unfold pages_open_close_k2_e pages_open_close_k2
  exact (lb pages_sum_le fun _ => (lb pages_open_high_k2_le fun _ => (lb pages_open_close_k2_l490_le fun _ => lr)))
def pages_Break_1_k3_e (fu : Nat) (a3 : Option pages_open) (a30 : List api_Page) : Option ((List api_Page)) :=
  (match a3 with | none => some a30 | some x4 => (pages_open_close_k2_e fu x4 (w64 ((a30.length : Int) + 1)) >>= fun y54 => (if a30.length + 1 ≤ 4398046511104 then some (a30 ++ [y54]) else none)))
theorem pages_Break_1_k3_le {fu a3 a30} : Le (pages_Break_1_k3_e fu a3 a30) (pages_Break_1_k3 a3 a30) := by
  unfold pages_Break_1_k3_e pages_Break_1_k3
  exact (match a3 with | none => lr | some x4 => (lb pages_open_close_k2_le fun _ => (li lr lr)))
def pages_Break_r279_e (fu : Nat) (a1 : api_Paper) (v140 : Option pages_open) (v160 : Bool) (v168 : List pages_band) (v175 : List api_Page) (x287 : pages_band) : Option (((Option pages_open) × Bool × (List pages_band) × (List api_Page)) × Option Nat) :=
  (if (x287.slices.length : Int) = 0 then some (((some (⟨(⟨a1⟩ : pages_sheet), ([] : List api_Slice), x287.notes, ([0] : List Int)⟩ : pages_open)), false, v168, v175), (some 0)) else ((match v140 with | none => some (true, (none : Option pages_open)) | some x141 => (if v160 = true then (pages_band_top x287 >>= fun y426 => (if (0 : Int) ≤ w64 ((v168.length : Int) - 1) ∧ w64 ((v168.length : Int) - 1) < (v168.length : Int) then (pages_open_take_k1_e fu x141 x287 (max 0 (w64 (y426 - ((v168.getD (Int.toNat (w64 ((v168.length : Int) - 1))) z_pages_band).end_)))) >>= fun (y641, y642) => some (!y641, (some y642))) else none)) else none)) >>= fun (v360, v361) => (if v360 = true then (pages_Break_1_k2_e fu v361 v175 >>= fun y894 => (pages_begin_e fu (⟨a1⟩ : pages_sheet) x287 v168 >>= fun y908 => (if v168.length + 1 ≤ 2513169434916 then some (((some y908), true, v168 ++ [x287], y894), none) else none))) else (if v168.length + 1 ≤ 2513169434916 then some ((v361, true, v168 ++ [x287], v175), none) else none))))
theorem pages_Break_r279_le {fu a1 v140 v160 v168 v175 x287} : Le (pages_Break_r279_e fu a1 v140 v160 v168 v175 x287) (pages_Break_r279 a1 v140 v160 v168 v175 x287) := by
  unfold pages_Break_r279_e pages_Break_r279
  exact (li lr (lb (match v140 with | none => lr | some x141 => (li (lb lr fun _ => (li (lb pages_open_take_k1_le fun _ => lr) lr)) lr)) fun _ => (li (lb pages_Break_1_k2_le fun _ => (lb pages_begin_le fun _ => (li lr lr))) (li lr lr))))
def pages_Break_e (fu : Nat) (a1 : api_Paper) (a2 : List api_Slice) (a7 : List Bool) : Option ((List api_Page) × Int) :=
  (pages_sheet_valid_e fu (⟨a1⟩ : pages_sheet) >>= fun y27 => ((if (!y27) = true then some true else (pages_canBreak_e fu a2 a7 >>= fun y40 => some (!y40))) >>= fun v28 => (if v28 = true then some (([] : List api_Page), 1) else (pages_bands a2 a7 >>= fun (y86, y93) => (pages_bands_1_k1_e fu (rnd (fun (u : (Option pages_open) × Bool × (List pages_band) × (List api_Page)) (x : pages_band) => pages_Break_r279_e fu a1 u.1 u.2.1 u.2.2.1 u.2.2.2 x)) (((none : Option pages_open), true, ([] : List pages_band), ([] : List api_Page)), none) y86 y93 >>= fun ((v140, v160, v168, v175), jo281) => match jo281 with | none => (pages_Break_1_k3_e fu v140 v175 >>= fun y1031 => (if 500 < (y1031.length : Int) then some (([] : List api_Page), 2) else some (y1031, 0))) | some 0 => (pages_Break_1_k3_e fu v140 v175 >>= fun y1077 => (if 500 < (y1077.length : Int) then some (([] : List api_Page), 2) else some (y1077, 0))) | some _ => none)))))
theorem pages_Break_le {fu a1 a2 a7} : Le (pages_Break_e fu a1 a2 a7) (pages_Break a1 a2 a7) := by
  unfold pages_Break_e pages_Break
  exact (lb pages_sheet_valid_le fun _ => (lb (li lr (lb pages_canBreak_le fun _ => lr)) fun _ => (li lr (lb lr fun _ => (lb (pages_bands_1_k1_le (rnd_le fun _ _ => pages_Break_r279_le)) fun ((v140, v160, v168, v175), jo281) => (match jo281 with | none => (lb pages_Break_1_k3_le fun _ => (li lr lr)) | some 0 => (lb pages_Break_1_k3_le fun _ => (li lr lr)) | some (_ + 1) => lr))))))
def slices_IndexFunc_api_Slice_k1_l25_e (fu : Nat) (a1 : List api_Slice) (a8 : Int) (v19 : Int) : Option (Sum Int Unit) := match fu with
  | 0 => none
  | fu + 1 => (if v19 < (a1.length : Int) then (if (0 : Int) ≤ v19 ∧ v19 < (a1.length : Int) then (pages_Find_1_k1 (a1.getD (Int.toNat v19) z_api_Slice) a8 >>= fun y63 => (if y63 = true then some (Sum.inl v19) else slices_IndexFunc_api_Slice_k1_l25_e fu a1 a8 (w64 (v19 + 1)))) else none) else some (Sum.inr ()))
theorem slices_IndexFunc_api_Slice_k1_l25_le {fu a1 a8 v19} : Le (slices_IndexFunc_api_Slice_k1_l25_e fu a1 a8 v19) (slices_IndexFunc_api_Slice_k1_l25 a1 a8 v19) := by
  induction fu generalizing a1 a8 v19 with
  | zero => exact Le.none
  | succ fu ih =>
    rw [slices_IndexFunc_api_Slice_k1_l25]
    exact (li (li (lb lr fun _ => (li lr ih)) lr) lr)
def slices_IndexFunc_api_Slice_k1_e (fu : Nat) (a1 : List api_Slice) (a8 : Int) : Option (Int) :=
  (slices_IndexFunc_api_Slice_k1_l25_e fu a1 a8 0 >>= fun o35 => match o35 with | (Sum.inl v26) => some v26 | (Sum.inr _) => some (-1))
theorem slices_IndexFunc_api_Slice_k1_le {fu a1 a8} : Le (slices_IndexFunc_api_Slice_k1_e fu a1 a8) (slices_IndexFunc_api_Slice_k1 a1 a8) := by
  unfold slices_IndexFunc_api_Slice_k1_e slices_IndexFunc_api_Slice_k1
  exact (lb slices_IndexFunc_api_Slice_k1_l25_le fun o35 => (match o35 with | (Sum.inl v26) => lr | (Sum.inr _) => lr))
def slices_ContainsFunc_api_Slice_k1_e (fu : Nat) (a1 : List api_Slice) (a8 : Int) : Option (Bool) :=
  (slices_IndexFunc_api_Slice_k1_e fu a1 a8 >>= fun y18 => some (decide (0 ≤ y18)))
theorem slices_ContainsFunc_api_Slice_k1_le {fu a1 a8} : Le (slices_ContainsFunc_api_Slice_k1_e fu a1 a8) (slices_ContainsFunc_api_Slice_k1 a1 a8) := by
  unfold slices_ContainsFunc_api_Slice_k1_e slices_ContainsFunc_api_Slice_k1
  exact (lb slices_IndexFunc_api_Slice_k1_le fun _ => lr)
def pages_Find_l27_e (fu : Nat) (a1 : List api_Page) (a6 : Int) (v21 : Int) : Option (Sum Int Unit) := match fu with
  | 0 => none
  | fu + 1 => (if v21 < (a1.length : Int) then (if (0 : Int) ≤ v21 ∧ v21 < (a1.length : Int) then (slices_ContainsFunc_api_Slice_k1_e fu ((a1.getD (Int.toNat v21) z_api_Page).Slices) a6 >>= fun y76 => (if y76 = true then some (Sum.inl ((a1.getD (Int.toNat v21) z_api_Page).Number)) else pages_Find_l27_e fu a1 a6 (w64 (v21 + 1)))) else none) else some (Sum.inr ()))
theorem pages_Find_l27_le {fu a1 a6 v21} : Le (pages_Find_l27_e fu a1 a6 v21) (pages_Find_l27 a1 a6 v21) := by
  induction fu generalizing a1 a6 v21 with
  | zero => exact Le.none
  | succ fu ih =>
    rw [pages_Find_l27]
    exact (li (li (lb slices_ContainsFunc_api_Slice_k1_le fun _ => (li lr ih)) lr) lr)
def pages_Find_e (fu : Nat) (a1 : List api_Page) (a6 : Int) : Option (Int × Bool) :=
  (pages_Find_l27_e fu a1 a6 0 >>= fun o37 => match o37 with | (Sum.inl v28) => some (v28, true) | (Sum.inr _) => some (0, false))
theorem pages_Find_le {fu a1 a6} : Le (pages_Find_e fu a1 a6) (pages_Find a1 a6) := by
  unfold pages_Find_e pages_Find
  exact (lb pages_Find_l27_le fun o37 => (match o37 with | (Sum.inl v28) => lr | (Sum.inr _) => lr))
def formeref40_SameSlices_l34_e (fu : Nat) (a1 : List api_Slice) (a6 : List api_Slice) (v28 : Int) : Option (Sum Unit Unit) := match fu with
  | 0 => none
  | fu + 1 => (if v28 < (a1.length : Int) then (if (0 : Int) ≤ v28 ∧ v28 < (a1.length : Int) then (if (0 : Int) ≤ v28 ∧ v28 < (a6.length : Int) then (if ¬ (a1.getD (Int.toNat v28) z_api_Slice) = (a6.getD (Int.toNat v28) z_api_Slice) then some (Sum.inl ()) else formeref40_SameSlices_l34_e fu a1 a6 (w64 (v28 + 1))) else none) else none) else some (Sum.inr ()))
theorem formeref40_SameSlices_l34_le {fu a1 a6 v28} : Le (formeref40_SameSlices_l34_e fu a1 a6 v28) (formeref40_SameSlices_l34 a1 a6 v28) := by
  induction fu generalizing a1 a6 v28 with
  | zero => exact Le.none
  | succ fu ih =>
    rw [formeref40_SameSlices_l34]
    exact (li (li (li (li lr ih) lr) lr) lr)
def formeref40_SameSlices_e (fu : Nat) (a1 : List api_Slice) (a6 : List api_Slice) : Option (Bool) :=
  (if ¬ (a1.length : Int) = (a6.length : Int) then some false else (formeref40_SameSlices_l34_e fu a1 a6 0 >>= fun o43 => match o43 with | (Sum.inl _) => some false | (Sum.inr _) => some true))
theorem formeref40_SameSlices_le {fu a1 a6} : Le (formeref40_SameSlices_e fu a1 a6) (formeref40_SameSlices a1 a6) := by
  unfold formeref40_SameSlices_e formeref40_SameSlices
  exact (li lr (lb formeref40_SameSlices_l34_le fun o43 => (match o43 with | (Sum.inl _) => lr | (Sum.inr _) => lr)))
def formeref40_Same_l34_e (fu : Nat) (a1 : List api_Page) (a6 : List api_Page) (v28 : Int) : Option (Sum Unit Unit) := match fu with
  | 0 => none
  | fu + 1 => (if v28 < (a1.length : Int) then ((if (0 : Int) ≤ v28 ∧ v28 < (a1.length : Int) then (if (0 : Int) ≤ v28 ∧ v28 < (a6.length : Int) then (if ¬ ((a1.getD (Int.toNat v28) z_api_Page).Number) = ((a6.getD (Int.toNat v28) z_api_Page).Number) then some true else (if (0 : Int) ≤ v28 ∧ v28 < (a1.length : Int) then (if (0 : Int) ≤ v28 ∧ v28 < (a6.length : Int) then (formeref40_SameSlices_e fu ((a1.getD (Int.toNat v28) z_api_Page).Slices) ((a6.getD (Int.toNat v28) z_api_Page).Slices) >>= fun y159 => some (!y159)) else none) else none)) else none) else none) >>= fun v103 => (if v103 = true then some (Sum.inl ()) else formeref40_Same_l34_e fu a1 a6 (w64 (v28 + 1)))) else some (Sum.inr ()))
theorem formeref40_Same_l34_le {fu a1 a6 v28} : Le (formeref40_Same_l34_e fu a1 a6 v28) (formeref40_Same_l34 a1 a6 v28) := by
  induction fu generalizing a1 a6 v28 with
  | zero => exact Le.none
  | succ fu ih =>
    rw [formeref40_Same_l34]
    exact (li (lb (li (li (li lr (li (li (lb formeref40_SameSlices_le fun _ => lr) lr) lr)) lr) lr) fun _ => (li lr ih)) lr)
def formeref40_Same_e (fu : Nat) (a1 : List api_Page) (a6 : List api_Page) : Option (Bool) :=
  (if ¬ (a1.length : Int) = (a6.length : Int) then some false else (formeref40_Same_l34_e fu a1 a6 0 >>= fun o43 => match o43 with | (Sum.inl _) => some false | (Sum.inr _) => some true))
theorem formeref40_Same_le {fu a1 a6} : Le (formeref40_Same_e fu a1 a6) (formeref40_Same a1 a6) := by
  unfold formeref40_Same_e formeref40_Same
  exact (li lr (lb formeref40_Same_l34_le fun o43 => (match o43 with | (Sum.inl _) => lr | (Sum.inr _) => lr)))
def formelaw40_head_e (fu : Nat) : Option (Bool) :=
  (formelaw40_paper 1 >>= fun y16 => (formelaw40_rows >>= fun y216 => (if (0 : Int) ≤ 4 ∧ (1 : Int) * 4 ≤ 281474976710656 ∧ (4 : Int) ≤ 9223372036854775807 then (pages_Break_e fu y16 y216 (List.replicate (Int.toNat 4) false) >>= fun (y427, y434) => (formelaw40_paper 1 >>= fun y636 => (formelaw40_rows >>= fun y642 => (pages_Break_e fu y636 y642 ([false, true, false, false] : List Bool) >>= fun (y662, y669) => (formelaw40_paper 2 >>= fun y683 => (formelaw40_rows >>= fun y883 => (if (0 : Int) ≤ 4 ∧ (1 : Int) * 4 ≤ 281474976710656 ∧ (4 : Int) ≤ 9223372036854775807 then (pages_Break_e fu y683 y883 (List.replicate (Int.toNat 4) false) >>= fun (y1094, y1101) => (formelaw40_paper 1 >>= fun y1310 => (formelaw40_rows >>= fun y1316 => (pages_Break_e fu y1310 y1316 ([] : List Bool) >>= fun (y1328, y1335) => (pages_Find_e fu y662 4 >>= fun (y1343, y1344) => (pages_Find_e fu y662 5 >>= fun (y1352, y1353) => ((if y434 = 0 then some (decide (y669 = 0)) else some false) >>= fun v1356 => ((if v1356 = true then some (decide (y1101 = 0)) else some false) >>= fun v1363 => ((if v1363 = true then some (decide (y1335 = 1)) else some false) >>= fun v1370 => ((if v1370 = true then some (decide (y1343 = 3)) else some false) >>= fun v1377 => ((if v1377 = true then some y1344 else some false) >>= fun v1384 => ((if v1384 = true then some (!y1353) else some false) >>= fun v1391 => ((if v1391 = true then (formelaw40_at 1 0 0 >>= fun y1412 => (formelaw40_at 2 0 12 >>= fun y1418 => (formelaw40_at 3 0 0 >>= fun y1432 => (formelaw40_at 4 0 12 >>= fun y1438 => (formeref40_Same_e fu y427 ([(⟨1, ([y1412, y1418] : List api_Slice)⟩ : api_Page), (⟨2, ([y1432, y1438] : List api_Slice)⟩ : api_Page)] : List api_Page) >>= fun y1460 => some y1460))))) else some false) >>= fun v1400 => ((if v1400 = true then (formelaw40_at 1 0 0 >>= fun y1487 => (formelaw40_at 2 0 0 >>= fun y1501 => (formelaw40_at 3 0 12 >>= fun y1507 => (formelaw40_at 4 0 0 >>= fun y1521 => (formeref40_Same_e fu y662 ([(⟨1, ([y1487] : List api_Slice)⟩ : api_Page), (⟨2, ([y1501, y1507] : List api_Slice)⟩ : api_Page), (⟨3, ([y1521] : List api_Slice)⟩ : api_Page)] : List api_Page) >>= fun y1543 => some y1543))))) else some false) >>= fun v1475 => ((if v1475 = true then (formelaw40_at 1 0 0 >>= fun y1570 => (formelaw40_at 2 0 12 >>= fun y1576 => (formelaw40_at 3 300 0 >>= fun y1582 => (formelaw40_at 4 300 12 >>= fun y1588 => (formeref40_Same_e fu y1094 ([(⟨1, ([y1570, y1576, y1582, y1588] : List api_Slice)⟩ : api_Page)] : List api_Page) >>= fun y1610 => some y1610))))) else some false) >>= fun v1558 => some v1558))))))))))))))) else none))))))) else none)))
theorem formelaw40_head_le {fu} : Le (formelaw40_head_e fu) (formelaw40_head) := by
  unfold formelaw40_head_e formelaw40_head
  exact (lb lr fun _ => (lb lr fun _ => (li (lb pages_Break_le fun _ => (lb lr fun _ => (lb lr fun _ => (lb pages_Break_le fun _ => (lb lr fun _ => (lb lr fun _ => (li (lb pages_Break_le fun _ => (lb lr fun _ => (lb lr fun _ => (lb pages_Break_le fun _ => (lb pages_Find_le fun _ => (lb pages_Find_le fun _ => (lb (li lr lr) fun _ => (lb (li lr lr) fun _ => (lb (li lr lr) fun _ => (lb (li lr lr) fun _ => (lb (li lr lr) fun _ => (lb (li lr lr) fun _ => (lb (li (lb lr fun _ => (lb lr fun _ => (lb lr fun _ => (lb lr fun _ => (lb formeref40_Same_le fun _ => lr))))) lr) fun _ => (lb (li (lb lr fun _ => (lb lr fun _ => (lb lr fun _ => (lb lr fun _ => (lb formeref40_Same_le fun _ => lr))))) lr) fun _ => (lb (li (lb lr fun _ => (lb lr fun _ => (lb lr fun _ => (lb lr fun _ => (lb formeref40_Same_le fun _ => lr))))) lr) fun _ => lr))))))))))))))) lr))))))) lr)))
end Go.Proofs.Ytlcfemplcaejgaa.LG
