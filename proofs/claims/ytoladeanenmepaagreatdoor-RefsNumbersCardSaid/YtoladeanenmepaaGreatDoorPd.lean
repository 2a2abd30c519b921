/-
  What the functions compute, as plain Lean functions: printed by a program out of the translation.
-/
import Derived.Test.YtoladeanenmepaaGreatDoorLgP
import Derived.Lib.Bytealg
import Derived.Lib.ItoaNum
import Derived.Lib.ParseIntB
set_option linter.unusedVariables false
set_option linter.defProp false
set_option synthInstance.maxSize 4000
set_option synthInstance.maxHeartbeats 1000000
namespace Go.Proofs.YtoladeanenmepaaGreatDoor.LG
open Go Go.LG
structure api_Slice where
  Node : Int
  Table : Int
  X : Int
  Y : Int
  H : Int
  Text : ByteArray
  Head : Bool
  Note : Bool
  deriving DecidableEq
def z_api_Slice : api_Slice := ⟨(0 : Int), (0 : Int), (0 : Int), (0 : Int), (0 : Int), (⟨#[]⟩ : ByteArray), false, false⟩
structure api_Page where
  Number : Int
  Slices : List api_Slice
  deriving DecidableEq
def z_api_Page : api_Page := ⟨(0 : Int), ([] : List api_Slice)⟩
structure strings_Builder where
  addr : Bool
  buf : List Int
  deriving DecidableEq
def z_strings_Builder : strings_Builder := ⟨false, ([] : List Int)⟩
structure api_Node where
  ID : Int
  Parent : Int
  Kind : Int
  Class : Int
  Text : ByteArray
  deriving DecidableEq
def z_api_Node : api_Node := ⟨(0 : Int), (0 : Int), (0 : Int), (0 : Int), (⟨#[]⟩ : ByteArray)⟩
structure api_Glyph where
  Byte : Int
  Advance : Int
  deriving DecidableEq
def z_api_Glyph : api_Glyph := ⟨(0 : Int), (0 : Int)⟩
structure api_Kern where
  Left : Int
  Right : Int
  By : Int
  deriving DecidableEq
def z_api_Kern : api_Kern := ⟨(0 : Int), (0 : Int), (0 : Int)⟩
structure api_Font where
  Glyphs : List api_Glyph
  Kerns : List api_Kern
  deriving DecidableEq
def z_api_Font : api_Font := ⟨([] : List api_Glyph), ([] : List api_Kern)⟩
structure api_Breaks where
  Before : Int
  Behind : Int
  Keep : List ByteArray
  deriving DecidableEq
def z_api_Breaks : api_Breaks := ⟨(0 : Int), (0 : Int), ([] : List ByteArray)⟩
structure api_Paper where
  Width : Int
  Height : Int
  Columns : Int
  Gap : Int
  Scale : Int
  Lang : Int
  deriving DecidableEq
def z_api_Paper : api_Paper := ⟨(0 : Int), (0 : Int), (0 : Int), (0 : Int), (0 : Int), (0 : Int)⟩
structure pages_sheet where
  Paper : api_Paper
  deriving DecidableEq
def z_pages_sheet : pages_sheet := ⟨z_api_Paper⟩
structure api_Reader where
  Width : Int
  Scale : Int
  Lang : Int
  deriving DecidableEq
def z_api_Reader : api_Reader := ⟨(0 : Int), (0 : Int), (0 : Int)⟩
def text_Class (a1 : Int) : Option (Int) :=
  (if a1 = 32 then some 4 else (if a1 = 126 then some 6 else ((if a1 < 32 then some true else some (decide (126 < a1))) >>= fun v18 => (if v18 = true then some 0 else ((if 97 ≤ a1 then some (decide (a1 ≤ 122)) else some false) >>= fun v30 => (if v30 = true then some 1 else ((if 65 ≤ a1 then some (decide (a1 ≤ 90)) else some false) >>= fun v42 => (if v42 = true then some 2 else ((if 48 ≤ a1 then some (decide (a1 ≤ 57)) else some false) >>= fun v54 => (if v54 = true then some 3 else some 5))))))))))
def text_Valid_l22 (a1 : ByteArray) (v16 : Nat) : Option (Sum Nat Nat) :=
  (if v16 < a1.size then ((if 126 < ((Utf8.decode a1 v16).1 : Int) then some true else (text_Class (wu8 (((Utf8.decode a1 v16).1 : Int))) >>= fun y61 => some (decide (y61 = 0)))) >>= fun v49 => (if v49 = true then some (Sum.inl (v16 + (Utf8.decode a1 v16).2)) else text_Valid_l22 a1 (v16 + (Utf8.decode a1 v16).2))) else some (Sum.inr v16))
  partial_fixpoint
def text_Valid (a1 : ByteArray) : Option (Bool) :=
  (text_Valid_l22 a1 0 >>= fun o33 => match o33 with | (Sum.inl v23) => some false | (Sum.inr v24) => some (decide ((a1.size : Int) ≤ 2000)))
def refs_parts (a1 : ByteArray) : Option (ByteArray) :=
  some a1
def strings_IndexByte (s : ByteArray) (c : Int) : Option Int := some (Lib.indexByte s.data.toList c.toNat.toUInt8)
def strconv_ParseUint (s : ByteArray) (b n : Int) : Option (Int × Bool) :=
  if b = 10 ∧ n = 32 ∧ s.size ≤ 281474976710656 then match Lib.parseUintB 32 s.data.toList with
    | .ok u => some ((u : Int), false)
    | .range => none
    | _ => some (0, true)
  else none
def refs_reference (a1 : ByteArray) : Option (Int × Int) :=
  ((if a1 = (⟨#[]⟩ : ByteArray) then some true else (if (0 : Int) ≤ 0 ∧ 0 < (a1.size : Int) then some (decide (¬ (bt a1 0) = 64)) else none)) >>= fun v8 => (if v8 = true then some (0, 0) else (if (0 : Int) ≤ 1 ∧ (1 : Int) ≤ (a1.size : Int) then (strings_IndexByte (sub a1 1 (a1.size : Int)) 64 >>= fun y29 => ((if y29 < 1 then some true else some (decide (8 < y29))) >>= fun v34 => ((if v34 = true then some true else (if (0 : Int) ≤ 1 ∧ 1 < (a1.size : Int) then some (decide ((bt a1 1) < 49)) else none)) >>= fun v41 => (if v41 = true then some (0, 0) else (if (0 : Int) ≤ 1 ∧ (1 : Int) ≤ (w64 (1 + y29)) ∧ (w64 (1 + y29)) ≤ (a1.size : Int) then (strconv_ParseUint (sub a1 1 (w64 (1 + y29))) 10 32 >>= fun (y62, y63) => ((if y63 = true then some true else some (decide (1000000 < y62))) >>= fun v70 => (if v70 = true then some (0, 0) else some (w64 (y62), w64 (y29 + 2))))) else none))))) else none)))
def refs_parts_1_k1_l20 {σ : Type} (φ : σ → (ByteArray × Int) → Option (σ × Bool)) (v8 : ByteArray) (v10 : σ) : Option (Sum (ByteArray × σ) (ByteArray × σ)) :=
  (if ¬ v8 = (⟨#[]⟩ : ByteArray) then (refs_reference v8 >>= fun (y54, y55) => (if (0 : Int) ≤ (max y55 1) ∧ (max y55 1) ≤ (v8.size : Int) then (φ v10 (sub v8 0 (max y55 1), y54) >>= fun (s65, b66) => (if (!b66) = true then some (Sum.inl (v8, s65)) else (if (0 : Int) ≤ (max y55 1) ∧ (max y55 1 : Int) ≤ (v8.size : Int) then refs_parts_1_k1_l20 φ (sub v8 (max y55 1) (v8.size : Int)) s65 else none))) else none)) else some (Sum.inr (v8, v10)))
  partial_fixpoint
def refs_parts_1_k1 {σ : Type} (φ : σ → (ByteArray × Int) → Option (σ × Bool)) (sy : σ) (a3 : ByteArray) : Option (ByteArray × σ) :=
  (refs_parts_1_k1_l20 φ a3 sy >>= fun o37 => match o37 with | (Sum.inl (v21, v23)) => some (v21, v23) | (Sum.inr (v25, v27)) => some (v25, v27))
def refs_Refs_r59 (v42 : List Int) (x67 : ByteArray) (x69 : Int) : Option (((List Int)) × Option Nat) :=
  (if 0 < x69 then (if v42.length + 1 ≤ 17592186044416 then some (v42 ++ [x69], none) else none) else some (v42, none))
def refs_Refs (a1 : ByteArray) : Option ((List Int) × Int) :=
  (text_Valid a1 >>= fun y13 => (if (!y13) = true then some (([] : List Int), 1) else (refs_parts a1 >>= fun y38 => (refs_parts_1_k1 (rnd (fun (u : (List Int)) (x : ByteArray × Int) => refs_Refs_r59 u x.1 x.2)) (([] : List Int), none) y38 >>= fun (y110, v42, jo61) => match jo61 with | none => some (v42, 0) | some _ => none))))
def refs_Fill_1 (a1 : api_Page) : Option (Bool) :=
  ((if a1.Number < 1 then some true else some (decide (500 < a1.Number))) >>= fun v14 => some v14)
def slices_IndexFunc_api_Page_k1_l22 (a1 : List api_Page) (v16 : Int) : Option (Sum Int Unit) :=
  (if v16 < (a1.length : Int) then (if (0 : Int) ≤ v16 ∧ v16 < (a1.length : Int) then (refs_Fill_1 (a1.getD (Int.toNat v16) z_api_Page) >>= fun y64 => (if y64 = true then some (Sum.inl v16) else slices_IndexFunc_api_Page_k1_l22 a1 (w64 (v16 + 1)))) else none) else some (Sum.inr ()))
  partial_fixpoint
def slices_IndexFunc_api_Page_k1 (a1 : List api_Page) : Option (Int) :=
  (slices_IndexFunc_api_Page_k1_l22 a1 0 >>= fun o32 => match o32 with | (Sum.inl v23) => some v23 | (Sum.inr _) => some (-1))
def slices_ContainsFunc_api_Page_k1 (a1 : List api_Page) : Option (Bool) :=
  (slices_IndexFunc_api_Page_k1 a1 >>= fun y15 => some (decide (0 ≤ y15)))
def refs_filler (a1 : List api_Page) : Option ((List api_Page)) :=
  some a1
def pages_Find_1_k1 (a1 : api_Slice) (a4 : Int) : Option (Bool) :=
  some (decide (a1.Node = a4))
def slices_IndexFunc_api_Slice_k1_l25 (a1 : List api_Slice) (a8 : Int) (v19 : Int) : Option (Sum Int Unit) :=
  (if v19 < (a1.length : Int) then (if (0 : Int) ≤ v19 ∧ v19 < (a1.length : Int) then (pages_Find_1_k1 (a1.getD (Int.toNat v19) z_api_Slice) a8 >>= fun y63 => (if y63 = true then some (Sum.inl v19) else slices_IndexFunc_api_Slice_k1_l25 a1 a8 (w64 (v19 + 1)))) else none) else some (Sum.inr ()))
  partial_fixpoint
def slices_IndexFunc_api_Slice_k1 (a1 : List api_Slice) (a8 : Int) : Option (Int) :=
  (slices_IndexFunc_api_Slice_k1_l25 a1 a8 0 >>= fun o35 => match o35 with | (Sum.inl v26) => some v26 | (Sum.inr _) => some (-1))
def slices_ContainsFunc_api_Slice_k1 (a1 : List api_Slice) (a8 : Int) : Option (Bool) :=
  (slices_IndexFunc_api_Slice_k1 a1 a8 >>= fun y18 => some (decide (0 ≤ y18)))
def pages_Find_l27 (a1 : List api_Page) (a6 : Int) (v21 : Int) : Option (Sum Int Unit) :=
  (if v21 < (a1.length : Int) then (if (0 : Int) ≤ v21 ∧ v21 < (a1.length : Int) then (slices_ContainsFunc_api_Slice_k1 ((a1.getD (Int.toNat v21) z_api_Page).Slices) a6 >>= fun y76 => (if y76 = true then some (Sum.inl ((a1.getD (Int.toNat v21) z_api_Page).Number)) else pages_Find_l27 a1 a6 (w64 (v21 + 1)))) else none) else some (Sum.inr ()))
  partial_fixpoint
def pages_Find (a1 : List api_Page) (a6 : Int) : Option (Int × Bool) :=
  (pages_Find_l27 a1 a6 0 >>= fun o37 => match o37 with | (Sum.inl v28) => some (v28, true) | (Sum.inr _) => some (0, false))
def decF : Nat → Nat → List UInt8
  | 0, _ => []
  | k + 1, u => if u < 10 then [UInt8.ofNat (48 + u)] else decF k (u / 10) ++ [UInt8.ofNat (48 + u % 10)]
theorem decF_eq : ∀ (k u : Nat), u < 10 ^ (k + 1) → decF (k + 1) u = Lib.decDigits u
  | 0, u, h => by rw [decF, Lib.decDigits, if_pos (by simpa using h), dif_pos (by simpa using h)]
  | k + 1, u, h => by
    rw [decF, Lib.decDigits]
    by_cases hu : u < 10
    · rw [if_pos hu, dif_pos hu]
    · rw [if_neg hu, dif_neg hu, decF_eq k (u / 10) (by rw [Nat.pow_succ] at h; omega)]
def itoaF (n : Int) : List UInt8 := if n < 0 then 45 :: decF 20 n.natAbs else decF 20 n.toNat
theorem itoaF_eq {n : Int} (h0 : -9223372036854775808 ≤ n) (h1 : n ≤ 9223372036854775807) : itoaF n = Lib.itoa n := by
  unfold itoaF Lib.itoa
  rw [decF_eq 19 _ (by omega), decF_eq 19 _ (by omega)]
def strconv_Itoa (n : Int) : Option ByteArray :=
  if -9223372036854775808 ≤ n ∧ n ≤ 9223372036854775807 then some ⟨(itoaF n).toArray⟩ else none
def strings_Builder_copyCheck (a0 : strings_Builder) : Option strings_Builder := some ⟨true, a0.buf⟩
def strings_Builder_WriteString_k1 (a3 : strings_Builder) (a10 : ByteArray) : Option (Int × strings_Builder) :=
  (strings_Builder_copyCheck a3 >>= fun y20 => (if y20.buf.length + a10.size ≤ 140737488355328 then some ((a10.size : Int), (⟨y20.addr, y20.buf ++ sbytes a10⟩ : strings_Builder)) else none))
def strings_Builder_String (a0 : strings_Builder) : Option ByteArray := if a0.buf.length ≤ 9223372036854775807 then some (bstr a0.buf) else none
def refs_filler_1_k1_r53 (a4 : List api_Page) (v32 : Bool) (v33 : List Int) (x61 : ByteArray) (x63 : Int) : Option ((Bool × (List Int)) × Option Nat) :=
  (if 0 < x63 then (pages_Find a4 x63 >>= fun (y84, y85) => (if y85 = true then (strconv_Itoa y84 >>= fun y94 => (strings_Builder_WriteString_k1 (⟨v32, v33⟩ : strings_Builder) y94 >>= fun (y104, y105) => some ((y105.addr, y105.buf), none))) else (strings_Builder_WriteString_k1 (⟨v32, v33⟩ : strings_Builder) (⟨#[63]⟩ : ByteArray) >>= fun (y125, y126) => some ((y126.addr, y126.buf), none)))) else (strings_Builder_WriteString_k1 (⟨v32, v33⟩ : strings_Builder) x61 >>= fun (y146, y147) => some ((y147.addr, y147.buf), none)))
def refs_filler_1_k1 (a1 : ByteArray) (a4 : List api_Page) : Option (ByteArray) :=
  (refs_parts a1 >>= fun y28 => (refs_parts_1_k1 (rnd (fun (u : Bool × (List Int)) (x : ByteArray × Int) => refs_filler_1_k1_r53 a4 u.1 u.2 x.1 x.2)) ((false, ([] : List Int)), none) y28 >>= fun (y171, (v32, v33), jo55) => match jo55 with | none => (strings_Builder_String (⟨v32, v33⟩ : strings_Builder) >>= fun y187 => some y187) | some _ => none))
def refs_Fill (a1 : ByteArray) (a2 : List api_Page) : Option (ByteArray × Int) :=
  (text_Valid a1 >>= fun y20 => ((if (!y20) = true then some true else (slices_ContainsFunc_api_Page_k1 a2 >>= fun y33 => some y33)) >>= fun v21 => (if v21 = true then some ((⟨#[]⟩ : ByteArray), 1) else (refs_filler a2 >>= fun y46 => (refs_filler_1_k1 a1 y46 >>= fun y56 => some (y56, 0))))))
def pages_within (a1 : Int) (a2 : Int) (a3 : Int) : Option (Bool) :=
  ((if a2 ≤ a1 then some (decide (a1 ≤ a3)) else some false) >>= fun v8 => some v8)
def pages_sheet_column (a1 : pages_sheet) : Option (Int) :=
  (if a1.Paper.Columns ≠ 0 then some (max 0 (w64 (Int.tdiv (w64 (a1.Paper.Width - (w64 (a1.Paper.Gap * (w64 (a1.Paper.Columns - 1)))))) a1.Paper.Columns))) else none)
def pages_sheet_reader (a1 : pages_sheet) : Option (api_Reader) :=
  (pages_sheet_column a1 >>= fun y27 => some (⟨y27, a1.Paper.Scale, a1.Paper.Lang⟩ : api_Reader))
def pages_sheet_valid (a1 : pages_sheet) : Option (Bool) :=
  (pages_within a1.Paper.Columns 1 8 >>= fun y15 => ((if y15 = true then (pages_within a1.Paper.Gap 0 1000 >>= fun y28 => some y28) else some false) >>= fun v16 => ((if v16 = true then (pages_within a1.Paper.Width 1 100000 >>= fun y41 => some y41) else some false) >>= fun v29 => ((if v29 = true then (pages_within a1.Paper.Height 1 1000000 >>= fun y54 => some y54) else some false) >>= fun v42 => ((if v42 = true then (pages_sheet_reader a1 >>= fun y66 => none) else some ()) >>= fun _ => some false)))))
def pages_Break (a1 : api_Paper) (a2 : List api_Slice) (a7 : List Bool) : Option ((List api_Page) × Int) :=
  (pages_sheet_valid (⟨a1⟩ : pages_sheet) >>= fun y27 => ((if (!y27) = true then some () else none) >>= fun _ => some (([] : List api_Page), 1)))
def refs_Print_k1 (a1 : List api_Node) (a6 : List api_Font) (a11 : List api_Breaks) (a16 : api_Paper) : Option ((List api_Page) × Int) :=
  (pages_Break a16 ([] : List api_Slice) ([] : List Bool) >>= fun (y36, y43) => ((if ¬ y43 = 0 then some () else none) >>= fun _ => some (([] : List api_Page), 1)))
def formeref02_SameInts_l34 (a1 : List Int) (a6 : List Int) (v28 : Int) : Option (Sum Unit Unit) :=
  (if v28 < (a1.length : Int) then (if (0 : Int) ≤ v28 ∧ v28 < (a1.length : Int) then (if (0 : Int) ≤ v28 ∧ v28 < (a6.length : Int) then (if ¬ (a1.getD (Int.toNat v28) (0 : Int)) = (a6.getD (Int.toNat v28) (0 : Int)) then some (Sum.inl ()) else formeref02_SameInts_l34 a1 a6 (w64 (v28 + 1))) else none) else none) else some (Sum.inr ()))
  partial_fixpoint
def formeref02_SameInts (a1 : List Int) (a6 : List Int) : Option (Bool) :=
  (if ¬ (a1.length : Int) = (a6.length : Int) then some false else (formeref02_SameInts_l34 a1 a6 0 >>= fun o43 => match o43 with | (Sum.inl _) => some false | (Sum.inr _) => some true))
def formelaw41_head : Option (Bool) :=
  (refs_Refs (⟨#[115, 101, 101, 32, 64, 49, 50, 64, 44, 32, 64, 51, 64, 33]⟩ : ByteArray) >>= fun (y28, y35) => (refs_Refs (⟨#[64, 48, 49, 50, 64, 32, 64, 48, 64, 32, 64, 49, 32, 50, 64, 32, 64, 64, 55, 64, 56, 64]⟩ : ByteArray) >>= fun (y43, y50) => (refs_Fill (⟨#[115, 101, 101, 32, 64, 49, 50, 64, 44, 32, 64, 51, 64, 33]⟩ : ByteArray) ([(⟨1, ([] : List api_Slice)⟩ : api_Page), (⟨2, ([(⟨12, 0, 0, 0, 0, (⟨#[]⟩ : ByteArray), false, false⟩ : api_Slice)] : List api_Slice)⟩ : api_Page)] : List api_Page) >>= fun (y58, y59) => (refs_Fill (⟨#[64, 64, 49, 50, 64, 49, 50, 64]⟩ : ByteArray) ([(⟨1, ([] : List api_Slice)⟩ : api_Page), (⟨2, ([(⟨12, 0, 0, 0, 0, (⟨#[]⟩ : ByteArray), false, false⟩ : api_Slice)] : List api_Slice)⟩ : api_Page)] : List api_Page) >>= fun (y67, y68) => (refs_Fill (⟨#[64, 49, 50, 64]⟩ : ByteArray) ([(⟨0, ([] : List api_Slice)⟩ : api_Page)] : List api_Page) >>= fun (y84, y85) => (refs_Print_k1 ([] : List api_Node) ([] : List api_Font) ([] : List api_Breaks) (⟨0, 0, 0, 0, 0, 0⟩ : api_Paper) >>= fun (y93, y100) => ((if y35 = 0 then some (decide (y50 = 0)) else some false) >>= fun v103 => ((if v103 = true then some (decide (y59 = 0)) else some false) >>= fun v110 => ((if v110 = true then some (decide (y68 = 0)) else some false) >>= fun v117 => ((if v117 = true then some (decide (y85 = 1)) else some false) >>= fun v124 => ((if v124 = true then some (decide (y100 = 1)) else some false) >>= fun v131 => ((if v131 = true then (formeref02_SameInts y28 ([12, 3] : List Int) >>= fun y160 => some y160) else some false) >>= fun v140 => ((if v140 = true then (formeref02_SameInts y43 ([7] : List Int) >>= fun y188 => some y188) else some false) >>= fun v168 => ((if v168 = true then some (decide (y58 = (⟨#[115, 101, 101, 32, 50, 44, 32, 63, 33]⟩ : ByteArray))) else some false) >>= fun v196 => ((if v196 = true then some (decide (y67 = (⟨#[64, 50, 49, 50, 64]⟩ : ByteArray))) else some false) >>= fun v203 => some v203)))))))))))))))
def formelaw41_few_l22 (a1 : List api_Page) (v16 : Int) : Option (Sum Unit Unit) :=
  ((if v16 < (a1.length : Int) then some (decide (v16 < 50)) else some false) >>= fun v40 => (if v40 = true then (if (0 : Int) ≤ v16 ∧ v16 < (a1.length : Int) then (if 100 < (((a1.getD (Int.toNat v16) z_api_Page).Slices).length : Int) then some (Sum.inl ()) else formelaw41_few_l22 a1 (w64 (v16 + 1))) else none) else some (Sum.inr ())))
  partial_fixpoint
def formelaw41_few (a1 : List api_Page) : Option (Bool) :=
  (formelaw41_few_l22 a1 0 >>= fun o31 => match o31 with | (Sum.inl _) => some false | (Sum.inr _) => some (decide ((a1.length : Int) ≤ 30)))
def formeref06_Class (a1 : Int) : Option (Int) :=
  ((if 97 ≤ a1 then some (decide (a1 ≤ 122)) else some false) >>= fun v8 => (if v8 = true then some 1 else ((if 65 ≤ a1 then some (decide (a1 ≤ 90)) else some false) >>= fun v22 => (if v22 = true then some 2 else ((if 48 ≤ a1 then some (decide (a1 ≤ 57)) else some false) >>= fun v36 => (if v36 = true then some 3 else (if a1 = 32 then some 4 else (if a1 = 126 then some 6 else ((if 32 < a1 then some (decide (a1 < 126)) else some false) >>= fun v64 => (if v64 = true then some 5 else some 0))))))))))
def formeref06_Valid_l18 (a1 : ByteArray) (v12 : Int) : Option (Sum Unit Unit) :=
  (if v12 < (a1.size : Int) then (if (0 : Int) ≤ v12 ∧ v12 < (a1.size : Int) then (formeref06_Class (bt a1 v12) >>= fun y47 => (if y47 = 0 then some (Sum.inl ()) else formeref06_Valid_l18 a1 (w64 (v12 + 1)))) else none) else some (Sum.inr ()))
  partial_fixpoint
def formeref06_Valid (a1 : ByteArray) : Option (Bool) :=
  (formeref06_Valid_l18 a1 0 >>= fun o27 => match o27 with | (Sum.inl _) => some false | (Sum.inr _) => some (decide ((a1.size : Int) ≤ 2000)))
def formeref04_Decimal_l29 (v21 : ByteArray) (v22 : Int) : Option (ByteArray) :=
  (if ¬ v22 = 0 then (if (Int.tmod v22 10) < 0 then (if (bstr ([wu8 (w64 (48 + (w64 (0 - (Int.tmod v22 10)))))] : List Int)).size + v21.size ≤ 9223372036854775807 then formeref04_Decimal_l29 ((bstr ([wu8 (w64 (48 + (w64 (0 - (Int.tmod v22 10)))))] : List Int)) ++ v21) (w64 (Int.tdiv v22 10)) else none) else (if (bstr ([wu8 (w64 (48 + (Int.tmod v22 10)))] : List Int)).size + v21.size ≤ 9223372036854775807 then formeref04_Decimal_l29 ((bstr ([wu8 (w64 (48 + (Int.tmod v22 10)))] : List Int)) ++ v21) (w64 (Int.tdiv v22 10)) else none)) else some v21)
  partial_fixpoint
def formeref04_Decimal (a1 : Int) : Option (ByteArray) :=
  (if a1 = 0 then some (⟨#[48]⟩ : ByteArray) else (formeref04_Decimal_l29 (⟨#[]⟩ : ByteArray) a1 >>= fun v30 => (if a1 < 0 then (if (⟨#[45]⟩ : ByteArray).size + v30.size ≤ 9223372036854775807 then some ((⟨#[45]⟩ : ByteArray) ++ v30) else none) else some v30)))
def formelaw41_RefsNumbers_l129 (a1 : ByteArray) (a2 : List api_Page) (y53 : List Int) (v119 : ByteArray) (v120 : Int) (v121 : Int) : Option (ByteArray × Int) :=
  (if v120 < (a1.size : Int) then (if v121 < (y53.length : Int) then (if (0 : Int) ≤ v121 ∧ v121 < (y53.length : Int) then (formeref04_Decimal (y53.getD (Int.toNat v121) (0 : Int)) >>= fun y165 => (if (⟨#[64]⟩ : ByteArray).size + y165.size ≤ 9223372036854775807 then (if ((⟨#[64]⟩ : ByteArray) ++ y165).size + (⟨#[64]⟩ : ByteArray).size ≤ 9223372036854775807 then ((if ((((⟨#[64]⟩ : ByteArray) ++ y165) ++ (⟨#[64]⟩ : ByteArray)).size : Int) ≤ (w64 ((a1.size : Int) - v120)) then (if (0 : Int) ≤ v120 ∧ (v120 : Int) ≤ (w64 (v120 + ((((⟨#[64]⟩ : ByteArray) ++ y165) ++ (⟨#[64]⟩ : ByteArray)).size : Int))) ∧ (w64 (v120 + ((((⟨#[64]⟩ : ByteArray) ++ y165) ++ (⟨#[64]⟩ : ByteArray)).size : Int))) ≤ (a1.size : Int) then some (decide ((sub a1 v120 (w64 (v120 + ((((⟨#[64]⟩ : ByteArray) ++ y165) ++ (⟨#[64]⟩ : ByteArray)).size : Int)))) = (((⟨#[64]⟩ : ByteArray) ++ y165) ++ (⟨#[64]⟩ : ByteArray)))) else none) else some false) >>= fun v170 => (if v170 = true then (if (0 : Int) ≤ v121 ∧ v121 < (y53.length : Int) then (pages_Find a2 (y53.getD (Int.toNat v121) (0 : Int)) >>= fun (y195, y196) => (if y196 = true then (formeref04_Decimal y195 >>= fun y207 => (if v119.size + y207.size ≤ 9223372036854775807 then formelaw41_RefsNumbers_l129 a1 a2 y53 (v119 ++ y207) (w64 (v120 + ((((⟨#[64]⟩ : ByteArray) ++ y165) ++ (⟨#[64]⟩ : ByteArray)).size : Int))) (w64 (v121 + 1)) else none)) else (if v119.size + (⟨#[63]⟩ : ByteArray).size ≤ 9223372036854775807 then formelaw41_RefsNumbers_l129 a1 a2 y53 (v119 ++ (⟨#[63]⟩ : ByteArray)) (w64 (v120 + ((((⟨#[64]⟩ : ByteArray) ++ y165) ++ (⟨#[64]⟩ : ByteArray)).size : Int))) (w64 (v121 + 1)) else none))) else none) else (if (0 : Int) ≤ v120 ∧ (v120 : Int) ≤ (w64 (v120 + 1)) ∧ (w64 (v120 + 1)) ≤ (a1.size : Int) then (if v119.size + (sub a1 v120 (w64 (v120 + 1))).size ≤ 9223372036854775807 then formelaw41_RefsNumbers_l129 a1 a2 y53 (v119 ++ (sub a1 v120 (w64 (v120 + 1)))) (w64 (v120 + 1)) v121 else none) else none))) else none) else none)) else none) else (if (0 : Int) ≤ v120 ∧ (v120 : Int) ≤ (w64 (v120 + 1)) ∧ (w64 (v120 + 1)) ≤ (a1.size : Int) then (if v119.size + (sub a1 v120 (w64 (v120 + 1))).size ≤ 9223372036854775807 then formelaw41_RefsNumbers_l129 a1 a2 y53 (v119 ++ (sub a1 v120 (w64 (v120 + 1)))) (w64 (v120 + 1)) v121 else none) else none)) else some (v119, v121))
  partial_fixpoint
def formelaw41_RefsNumbers (a1 : ByteArray) (a2 : List api_Page) : Option (Bool) :=
  (formelaw41_head >>= fun y16 => ((if 300 < (a1.size : Int) then some true else (formelaw41_few a2 >>= fun y33 => some (!y33))) >>= fun v21 => (if v21 = true then some y16 else (refs_Fill a1 a2 >>= fun (y44, y45) => (refs_Refs a1 >>= fun (y53, y60) => (if ¬ y45 = 0 then ((if y16 = true then some (decide (y45 = 1)) else some false) >>= fun v68 => ((if v68 = true then some (decide (y44 = (⟨#[]⟩ : ByteArray))) else some false) >>= fun v75 => some v75)) else ((if ¬ y60 = 0 then some true else some (decide ((a1.size : Int) < (y44.size : Int)))) >>= fun v87 => ((if v87 = true then some true else (formeref06_Valid y44 >>= fun y106 => some (!y106))) >>= fun v94 => (if v94 = true then some false else (formelaw41_RefsNumbers_l129 a1 a2 y53 (⟨#[]⟩ : ByteArray) 0 0 >>= fun (v130, v131) => ((if y16 = true then some (decide (v131 = (y53.length : Int))) else some false) >>= fun v228 => ((if v228 = true then some (decide (y44 = v130)) else some false) >>= fun v235 => some v235))))))))))))
end Go.Proofs.YtoladeanenmepaaGreatDoor.LG
