/-
  The plain functions with fuel, so that the kernel can compute them: printed by a program.
-/
import Derived.Test.YtoladeanenmepaaGreatDoorPd
import Derived.KernelRfl
set_option linter.unusedVariables false
set_option maxRecDepth 100000
namespace Go.Proofs.YtoladeanenmepaaGreatDoor.LG
open Go Go.LG
def Le {α : Type} (x y : Option α) : Prop := ∀ r, x = some r → y = some r
theorem Le.rfl {α : Type} {x : Option α} : Le x x := fun _ h => h
theorem Le.none {α : Type} {x : Option α} : Le none x := fun _ h => nomatch h
theorem Le.bind {α β : Type} {x y : Option α} {f g : α → Option β} (h : Le x y) (k : ∀ a, Le (f a) (g a)) : Le (x >>= f) (y >>= g) := by
  intro r hr
  cases x with
  | none => cases hr
  | some a => rw [h a _root_.rfl]; exact k a r hr
theorem Le.ite {α : Type} {c : Prop} [Decidable c] {x y x' y' : Option α} (h : Le x x') (k : Le y y') : Le (if c then x else y) (if c then x' else y') := by
  by_cases hc : c
  · rw [if_pos hc, if_pos hc]; exact h
  · rw [if_neg hc, if_neg hc]; exact k
theorem lb {α β : Type} {x y : Option α} {f g : α → Option β} (h : Le x y) (k : ∀ a, Le (f a) (g a)) : Le (x >>= f) (y >>= g) := Le.bind h k
theorem lr {α : Type} {x : Option α} : Le x x := Le.rfl
theorem li {α : Type} {c : Prop} [Decidable c] {x y x' y' : Option α} (h : Le x x') (k : Le y y') : Le (if c then x else y) (if c then x' else y') := Le.ite h k
theorem rnd_le {U α : Type} {φ φ' : U → α → Option (U × Option Nat)} (h : ∀ u x, Le (φ' u x) (φ u x)) : ∀ s x, Le (rnd φ' s x) (rnd φ s x) := fun s x => by
  unfold rnd
  split
  · exact Le.rfl
  · exact Le.bind (h _ _) fun _ => Le.rfl
def text_Valid_l22_e (fu : Nat) (a1 : ByteArray) (v16 : Nat) : Option (Sum Nat Nat) := match fu with
  | 0 => none
  | fu + 1 => (if v16 < a1.size then ((if 126 < ((Utf8.decode a1 v16).1 : Int) then some true else (text_Class (wu8 (((Utf8.decode a1 v16).1 : Int))) >>= fun y61 => some (decide (y61 = 0)))) >>= fun v49 => (if v49 = true then some (Sum.inl (v16 + (Utf8.decode a1 v16).2)) else text_Valid_l22_e fu a1 (v16 + (Utf8.decode a1 v16).2))) else some (Sum.inr v16))
theorem text_Valid_l22_le {fu a1 v16} : Le (text_Valid_l22_e fu a1 v16) (text_Valid_l22 a1 v16) := by
  induction fu generalizing a1 v16 with
  | zero => exact Le.none
  | succ fu ih =>
    rw [text_Valid_l22]
    exact (li (lb (li lr (lb lr fun _ => lr)) fun _ => (li lr ih)) lr)
def text_Valid_e (fu : Nat) (a1 : ByteArray) : Option (Bool) :=
  (text_Valid_l22_e fu a1 0 >>= fun o33 => match o33 with | (Sum.inl v23) => some false | (Sum.inr v24) => some (decide ((a1.size : Int) ≤ 2000)))
theorem text_Valid_le {fu a1} : Le (text_Valid_e fu a1) (text_Valid a1) := by
  unfold text_Valid_e text_Valid
  exact (lb text_Valid_l22_le fun o33 => (match o33 with | (Sum.inl v23) => lr | (Sum.inr v24) => lr))
def refs_parts_1_k1_l20_e (fu : Nat) {σ : Type} (φ : σ → (ByteArray × Int) → Option (σ × Bool)) (v8 : ByteArray) (v10 : σ) : Option (Sum (ByteArray × σ) (ByteArray × σ)) := match fu with
  | 0 => none
  | fu + 1 => (if ¬ v8 = (⟨#[]⟩ : ByteArray) then (refs_reference v8 >>= fun (y54, y55) => (if (0 : Int) ≤ (max y55 1) ∧ (max y55 1) ≤ (v8.size : Int) then (φ v10 (sub v8 0 (max y55 1), y54) >>= fun (s65, b66) => (if (!b66) = true then some (Sum.inl (v8, s65)) else (if (0 : Int) ≤ (max y55 1) ∧ (max y55 1 : Int) ≤ (v8.size : Int) then refs_parts_1_k1_l20_e fu φ (sub v8 (max y55 1) (v8.size : Int)) s65 else none))) else none)) else some (Sum.inr (v8, v10)))
theorem refs_parts_1_k1_l20_le {fu σ φ v8 v10} {φ' : σ → (ByteArray × Int) → Option (σ × Bool)} (hφ : ∀ s x, Le (φ' s x) (φ s x)) : Le (refs_parts_1_k1_l20_e fu φ' v8 v10) (refs_parts_1_k1_l20 φ v8 v10) := by
  induction fu generalizing v8 v10 with
  | zero => exact Le.none
  | succ fu ih =>
    rw [refs_parts_1_k1_l20]
    exact (li (lb lr fun _ => (li (lb (hφ _ _) fun _ => (li lr (li ih lr))) lr)) lr)
def refs_parts_1_k1_e (fu : Nat) {σ : Type} (φ : σ → (ByteArray × Int) → Option (σ × Bool)) (sy : σ) (a3 : ByteArray) : Option (ByteArray × σ) :=
  (refs_parts_1_k1_l20_e fu φ a3 sy >>= fun o37 => match o37 with | (Sum.inl (v21, v23)) => some (v21, v23) | (Sum.inr (v25, v27)) => some (v25, v27))
theorem refs_parts_1_k1_le {fu σ φ sy a3} {φ' : σ → (ByteArray × Int) → Option (σ × Bool)} (hφ : ∀ s x, Le (φ' s x) (φ s x)) : Le (refs_parts_1_k1_e fu φ' sy a3) (refs_parts_1_k1 φ sy a3) := by
  unfold refs_parts_1_k1_e refs_parts_1_k1
  exact (lb (refs_parts_1_k1_l20_le hφ) fun o37 => (match o37 with | (Sum.inl (v21, v23)) => lr | (Sum.inr (v25, v27)) => lr))
def refs_Refs_e (fu : Nat) (a1 : ByteArray) : Option ((List Int) × Int) :=
  (text_Valid_e fu a1 >>= fun y13 => (if (!y13) = true then some (([] : List Int), 1) else (refs_parts a1 >>= fun y38 => (refs_parts_1_k1_e fu (rnd (fun (u : (List Int)) (x : ByteArray × Int) => refs_Refs_r59 u x.1 x.2)) (([] : List Int), none) y38 >>= fun (y110, v42, jo61) => match jo61 with | none => some (v42, 0) | some _ => none))))
theorem refs_Refs_le {fu a1} : Le (refs_Refs_e fu a1) (refs_Refs a1) := by
  unfold refs_Refs_e refs_Refs
  exact (lb text_Valid_le fun _ => (li lr (lb lr fun _ => (lb (refs_parts_1_k1_le (rnd_le fun _ _ => lr)) fun (y110, v42, jo61) => (match jo61 with | none => lr | some _ => lr)))))
def slices_IndexFunc_api_Page_k1_l22_e (fu : Nat) (a1 : List api_Page) (v16 : Int) : Option (Sum Int Unit) := match fu with
  | 0 => none
  | fu + 1 => (if v16 < (a1.length : Int) then (if (0 : Int) ≤ v16 ∧ v16 < (a1.length : Int) then (refs_Fill_1 (a1.getD (Int.toNat v16) z_api_Page) >>= fun y64 => (if y64 = true then some (Sum.inl v16) else slices_IndexFunc_api_Page_k1_l22_e fu a1 (w64 (v16 + 1)))) else none) else some (Sum.inr ()))
theorem slices_IndexFunc_api_Page_k1_l22_le {fu a1 v16} : Le (slices_IndexFunc_api_Page_k1_l22_e fu a1 v16) (slices_IndexFunc_api_Page_k1_l22 a1 v16) := by
  induction fu generalizing a1 v16 with
  | zero => exact Le.none
  | succ fu ih =>
    rw [slices_IndexFunc_api_Page_k1_l22]
    exact (li (li (lb lr fun _ => (li lr ih)) lr) lr)
def slices_IndexFunc_api_Page_k1_e (fu : Nat) (a1 : List api_Page) : Option (Int) :=
  (slices_IndexFunc_api_Page_k1_l22_e fu a1 0 >>= fun o32 => match o32 with | (Sum.inl v23) => some v23 | (Sum.inr _) => some (-1))
theorem slices_IndexFunc_api_Page_k1_le {fu a1} : Le (slices_IndexFunc_api_Page_k1_e fu a1) (slices_IndexFunc_api_Page_k1 a1) := by
  unfold slices_IndexFunc_api_Page_k1_e slices_IndexFunc_api_Page_k1
  exact (lb slices_IndexFunc_api_Page_k1_l22_le fun o32 => (match o32 with | (Sum.inl v23) => lr | (Sum.inr _) => lr))
def slices_ContainsFunc_api_Page_k1_e (fu : Nat) (a1 : List api_Page) : Option (Bool) :=
  (slices_IndexFunc_api_Page_k1_e fu a1 >>= fun y15 => some (decide (0 ≤ y15)))
theorem slices_ContainsFunc_api_Page_k1_le {fu a1} : Le (slices_ContainsFunc_api_Page_k1_e fu a1) (slices_ContainsFunc_api_Page_k1 a1) := by
  unfold slices_ContainsFunc_api_Page_k1_e slices_ContainsFunc_api_Page_k1
  exact (lb slices_IndexFunc_api_Page_k1_le fun _ => lr)
def slices_IndexFunc_api_Slice_k1_l25_e (fu : Nat) (a1 : List api_Slice) (a8 : Int) (v19 : Int) : Option (Sum Int Unit) := match fu with
  | 0 => none
  | fu + 1 => (if v19 < (a1.length : Int) then (if (0 : Int) ≤ v19 ∧ v19 < (a1.length : Int) then (pages_Find_1_k1 (a1.getD (Int.toNat v19) z_api_Slice) a8 >>= fun y63 => (if y63 = true then some (Sum.inl v19) else slices_IndexFunc_api_Slice_k1_l25_e fu a1 a8 (w64 (v19 + 1)))) else none) else some (Sum.inr ()))
theorem slices_IndexFunc_api_Slice_k1_l25_le {fu a1 a8 v19} : Le (slices_IndexFunc_api_Slice_k1_l25_e fu a1 a8 v19) (slices_IndexFunc_api_Slice_k1_l25 a1 a8 v19) := by
  induction fu generalizing a1 a8 v19 with
  | zero => exact Le.none
  | succ fu ih =>
    rw [slices_IndexFunc_api_Slice_k1_l25]
    exact (li (li (lb lr fun _ => (li lr ih)) lr) lr)
def slices_IndexFunc_api_Slice_k1_e (fu : Nat) (a1 : List api_Slice) (a8 : Int) : Option (Int) :=
  (slices_IndexFunc_api_Slice_k1_l25_e fu a1 a8 0 >>= fun o35 => match o35 with | (Sum.inl v26) => some v26 | (Sum.inr _) => some (-1))
theorem slices_IndexFunc_api_Slice_k1_le {fu a1 a8} : Le (slices_IndexFunc_api_Slice_k1_e fu a1 a8) (slices_IndexFunc_api_Slice_k1 a1 a8) := by
  unfold slices_IndexFunc_api_Slice_k1_e slices_IndexFunc_api_Slice_k1
  exact (lb slices_IndexFunc_api_Slice_k1_l25_le fun o35 => (match o35 with | (Sum.inl v26) => lr | (Sum.inr _) => lr))
def slices_ContainsFunc_api_Slice_k1_e (fu : Nat) (a1 : List api_Slice) (a8 : Int) : Option (Bool) :=
  (slices_IndexFunc_api_Slice_k1_e fu a1 a8 >>= fun y18 => some (decide (0 ≤ y18)))
theorem slices_ContainsFunc_api_Slice_k1_le {fu a1 a8} : Le (slices_ContainsFunc_api_Slice_k1_e fu a1 a8) (slices_ContainsFunc_api_Slice_k1 a1 a8) := by
  unfold slices_ContainsFunc_api_Slice_k1_e slices_ContainsFunc_api_Slice_k1
  exact (lb slices_IndexFunc_api_Slice_k1_le fun _ => lr)
def pages_Find_l27_e (fu : Nat) (a1 : List api_Page) (a6 : Int) (v21 : Int) : Option (Sum Int Unit) := match fu with
  | 0 => none
  | fu + 1 => (if v21 < (a1.length : Int) then (if (0 : Int) ≤ v21 ∧ v21 < (a1.length : Int) then (slices_ContainsFunc_api_Slice_k1_e fu ((a1.getD (Int.toNat v21) z_api_Page).Slices) a6 >>= fun y76 => (if y76 = true then some (Sum.inl ((a1.getD (Int.toNat v21) z_api_Page).Number)) else pages_Find_l27_e fu a1 a6 (w64 (v21 + 1)))) else none) else some (Sum.inr ()))
theorem pages_Find_l27_le {fu a1 a6 v21} : Le (pages_Find_l27_e fu a1 a6 v21) (pages_Find_l27 a1 a6 v21) := by
  induction fu generalizing a1 a6 v21 with
  | zero => exact Le.none
  | succ fu ih =>
    rw [pages_Find_l27]
    exact (li (li (lb slices_ContainsFunc_api_Slice_k1_le fun _ => (li lr ih)) lr) lr)
def pages_Find_e (fu : Nat) (a1 : List api_Page) (a6 : Int) : Option (Int × Bool) :=
  (pages_Find_l27_e fu a1 a6 0 >>= fun o37 => match o37 with | (Sum.inl v28) => some (v28, true) | (Sum.inr _) => some (0, false))
theorem pages_Find_le {fu a1 a6} : Le (pages_Find_e fu a1 a6) (pages_Find a1 a6) := by
  unfold pages_Find_e pages_Find
  exact (lb pages_Find_l27_le fun o37 => (match o37 with | (Sum.inl v28) => lr | (Sum.inr _) => lr))
def refs_filler_1_k1_r53_e (fu : Nat) (a4 : List api_Page) (v32 : Bool) (v33 : List Int) (x61 : ByteArray) (x63 : Int) : Option ((Bool × (List Int)) × Option Nat) :=
  (if 0 < x63 then (pages_Find_e fu a4 x63 >>= fun (y84, y85) => (if y85 = true then (strconv_Itoa y84 >>= fun y94 => (strings_Builder_WriteString_k1 (⟨v32, v33⟩ : strings_Builder) y94 >>= fun (y104, y105) => some ((y105.addr, y105.buf), none))) else (strings_Builder_WriteString_k1 (⟨v32, v33⟩ : strings_Builder) (⟨#[63]⟩ : ByteArray) >>= fun (y125, y126) => some ((y126.addr, y126.buf), none)))) else (strings_Builder_WriteString_k1 (⟨v32, v33⟩ : strings_Builder) x61 >>= fun (y146, y147) => some ((y147.addr, y147.buf), none)))
theorem refs_filler_1_k1_r53_le {fu a4 v32 v33 x61 x63} : Le (refs_filler_1_k1_r53_e fu a4 v32 v33 x61 x63) (refs_filler_1_k1_r53 a4 v32 v33 x61 x63) := by
  unfold refs_filler_1_k1_r53_e refs_filler_1_k1_r53
  exact (li (lb pages_Find_le fun _ => (li (lb lr fun _ => (lb lr fun _ => lr)) (lb lr fun _ => lr))) (lb lr fun _ => lr))
def refs_filler_1_k1_e (fu : Nat) (a1 : ByteArray) (a4 : List api_Page) : Option (ByteArray) :=
  (refs_parts a1 >>= fun y28 => (refs_parts_1_k1_e fu (rnd (fun (u : Bool × (List Int)) (x : ByteArray × Int) => refs_filler_1_k1_r53_e fu a4 u.1 u.2 x.1 x.2)) ((false, ([] : List Int)), none) y28 >>= fun (y171, (v32, v33), jo55) => match jo55 with | none => (strings_Builder_String (⟨v32, v33⟩ : strings_Builder) >>= fun y187 => some y187) | some _ => none))
theorem refs_filler_1_k1_le {fu a1 a4} : Le (refs_filler_1_k1_e fu a1 a4) (refs_filler_1_k1 a1 a4) := by
  unfold refs_filler_1_k1_e refs_filler_1_k1
  exact (lb lr fun _ => (lb (refs_parts_1_k1_le (rnd_le fun _ _ => refs_filler_1_k1_r53_le)) fun (y171, (v32, v33), jo55) => (match jo55 with | none => (lb lr fun _ => lr) | some _ => lr)))
def refs_Fill_e (fu : Nat) (a1 : ByteArray) (a2 : List api_Page) : Option (ByteArray × Int) :=
  (text_Valid_e fu a1 >>= fun y20 => ((if (!y20) = true then some true else (slices_ContainsFunc_api_Page_k1_e fu a2 >>= fun y33 => some y33)) >>= fun v21 => (if v21 = true then some ((⟨#[]⟩ : ByteArray), 1) else (refs_filler a2 >>= fun y46 => (refs_filler_1_k1_e fu a1 y46 >>= fun y56 => some (y56, 0))))))
theorem refs_Fill_le {fu a1 a2} : Le (refs_Fill_e fu a1 a2) (refs_Fill a1 a2) := by
  unfold refs_Fill_e refs_Fill
  exact (lb text_Valid_le fun _ => (lb (li lr (lb slices_ContainsFunc_api_Page_k1_le fun _ => lr)) fun _ => (li lr (lb lr fun _ => (lb refs_filler_1_k1_le fun _ => lr)))))
def formeref02_SameInts_l34_e (fu : Nat) (a1 : List Int) (a6 : List Int) (v28 : Int) : Option (Sum Unit Unit) := match fu with
  | 0 => none
  | fu + 1 => (if v28 < (a1.length : Int) then (if (0 : Int) ≤ v28 ∧ v28 < (a1.length : Int) then (if (0 : Int) ≤ v28 ∧ v28 < (a6.length : Int) then (if ¬ (a1.getD (Int.toNat v28) (0 : Int)) = (a6.getD (Int.toNat v28) (0 : Int)) then some (Sum.inl ()) else formeref02_SameInts_l34_e fu a1 a6 (w64 (v28 + 1))) else none) else none) else some (Sum.inr ()))
theorem formeref02_SameInts_l34_le {fu a1 a6 v28} : Le (formeref02_SameInts_l34_e fu a1 a6 v28) (formeref02_SameInts_l34 a1 a6 v28) := by
  induction fu generalizing a1 a6 v28 with
  | zero => exact Le.none
  | succ fu ih =>
    rw [formeref02_SameInts_l34]
    exact (li (li (li (li lr ih) lr) lr) lr)
def formeref02_SameInts_e (fu : Nat) (a1 : List Int) (a6 : List Int) : Option (Bool) :=
  (if ¬ (a1.length : Int) = (a6.length : Int) then some false else (formeref02_SameInts_l34_e fu a1 a6 0 >>= fun o43 => match o43 with | (Sum.inl _) => some false | (Sum.inr _) => some true))
theorem formeref02_SameInts_le {fu a1 a6} : Le (formeref02_SameInts_e fu a1 a6) (formeref02_SameInts a1 a6) := by
  unfold formeref02_SameInts_e formeref02_SameInts
  exact (li lr (lb formeref02_SameInts_l34_le fun o43 => (match o43 with | (Sum.inl _) => lr | (Sum.inr _) => lr)))
def formelaw41_head_e (fu : Nat) : Option (Bool) :=
  (refs_Refs_e fu (⟨#[115, 101, 101, 32, 64, 49, 50, 64, 44, 32, 64, 51, 64, 33]⟩ : ByteArray) >>= fun (y28, y35) => (refs_Refs_e fu (⟨#[64, 48, 49, 50, 64, 32, 64, 48, 64, 32, 64, 49, 32, 50, 64, 32, 64, 64, 55, 64, 56, 64]⟩ : ByteArray) >>= fun (y43, y50) => (refs_Fill_e fu (⟨#[115, 101, 101, 32, 64, 49, 50, 64, 44, 32, 64, 51, 64, 33]⟩ : ByteArray) ([(⟨1, ([] : List api_Slice)⟩ : api_Page), (⟨2, ([(⟨12, 0, 0, 0, 0, (⟨#[]⟩ : ByteArray), false, false⟩ : api_Slice)] : List api_Slice)⟩ : api_Page)] : List api_Page) >>= fun (y58, y59) => (refs_Fill_e fu (⟨#[64, 64, 49, 50, 64, 49, 50, 64]⟩ : ByteArray) ([(⟨1, ([] : List api_Slice)⟩ : api_Page), (⟨2, ([(⟨12, 0, 0, 0, 0, (⟨#[]⟩ : ByteArray), false, false⟩ : api_Slice)] : List api_Slice)⟩ : api_Page)] : List api_Page) >>= fun (y67, y68) => (refs_Fill_e fu (⟨#[64, 49, 50, 64]⟩ : ByteArray) ([(⟨0, ([] : List api_Slice)⟩ : api_Page)] : List api_Page) >>= fun (y84, y85) => (refs_Print_k1 ([] : List api_Node) ([] : List api_Font) ([] : List api_Breaks) (⟨0, 0, 0, 0, 0, 0⟩ : api_Paper) >>= fun (y93, y100) => ((if y35 = 0 then some (decide (y50 = 0)) else some false) >>= fun v103 => ((if v103 = true then some (decide (y59 = 0)) else some false) >>= fun v110 => ((if v110 = true then some (decide (y68 = 0)) else some false) >>= fun v117 => ((if v117 = true then some (decide (y85 = 1)) else some false) >>= fun v124 => ((if v124 = true then some (decide (y100 = 1)) else some false) >>= fun v131 => ((if v131 = true then (formeref02_SameInts_e fu y28 ([12, 3] : List Int) >>= fun y160 => some y160) else some false) >>= fun v140 => ((if v140 = true then (formeref02_SameInts_e fu y43 ([7] : List Int) >>= fun y188 => some y188) else some false) >>= fun v168 => ((if v168 = true then some (decide (y58 = (⟨#[115, 101, 101, 32, 50, 44, 32, 63, 33]⟩ : ByteArray))) else some false) >>= fun v196 => ((if v196 = true then some (decide (y67 = (⟨#[64, 50, 49, 50, 64]⟩ : ByteArray))) else some false) >>= fun v203 => some v203)))))))))))))))
theorem formelaw41_head_le {fu} : Le (formelaw41_head_e fu) (formelaw41_head) := by
  unfold formelaw41_head_e formelaw41_head
  exact (lb refs_Refs_le fun _ => (lb refs_Refs_le fun _ => (lb refs_Fill_le fun _ => (lb refs_Fill_le fun _ => (lb refs_Fill_le fun _ => (lb lr fun _ => (lb (li lr lr) fun _ => (lb (li lr lr) fun _ => (lb (li lr lr) fun _ => (lb (li lr lr) fun _ => (lb (li lr lr) fun _ => (lb (li (lb formeref02_SameInts_le fun _ => lr) lr) fun _ => (lb (li (lb formeref02_SameInts_le fun _ => lr) lr) fun _ => (lb (li lr lr) fun _ => (lb (li lr lr) fun _ => lr)))))))))))))))
end Go.Proofs.YtoladeanenmepaaGreatDoor.LG
