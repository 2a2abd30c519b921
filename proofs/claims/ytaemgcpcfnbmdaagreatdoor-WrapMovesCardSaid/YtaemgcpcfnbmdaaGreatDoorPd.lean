/-
  What the functions compute, as plain Lean functions: printed by a program out of the translation.
-/
import Derived.Test.YtaemgcpcfnbmdaaGreatDoorLgP
import Derived.Lib.Replace
import Derived.Lib.TrimByte
set_option linter.unusedVariables false
set_option linter.defProp false
set_option synthInstance.maxSize 4000
set_option synthInstance.maxHeartbeats 1000000
namespace Go.Proofs.YtaemgcpcfnbmdaaGreatDoor.LG
open Go Go.LG
structure api_Seen where
  Text : ByteArray
  X : Int
  Y : Int
  W : Int
  H : Int
  deriving DecidableEq
def z_api_Seen : api_Seen := ⟨(⟨#[]⟩ : ByteArray), (0 : Int), (0 : Int), (0 : Int), (0 : Int)⟩
structure api_Glyph where
  Byte : Int
  Advance : Int
  deriving DecidableEq
def z_api_Glyph : api_Glyph := ⟨(0 : Int), (0 : Int)⟩
structure api_Kern where
  Left : Int
  Right : Int
  By : Int
  deriving DecidableEq
def z_api_Kern : api_Kern := ⟨(0 : Int), (0 : Int), (0 : Int)⟩
structure api_Font where
  Glyphs : List api_Glyph
  Kerns : List api_Kern
  deriving DecidableEq
def z_api_Font : api_Font := ⟨([] : List api_Glyph), ([] : List api_Kern)⟩
structure font_pair where
  left : Int
  right : Int
  deriving DecidableEq
def z_font_pair : font_pair := ⟨(0 : Int), (0 : Int)⟩
structure api_Breaks where
  Before : Int
  Behind : Int
  Keep : List ByteArray
  deriving DecidableEq
def z_api_Breaks : api_Breaks := ⟨(0 : Int), (0 : Int), ([] : List ByteArray)⟩
structure api_Break where
  At : Int
  Hyphen : Bool
  deriving DecidableEq
def z_api_Break : api_Break := ⟨(0 : Int), false⟩
structure api_Line where
  From : Int
  Until : Int
  Width : Int
  Hyphen : Bool
  deriving DecidableEq
def z_api_Line : api_Line := ⟨(0 : Int), (0 : Int), (0 : Int), false⟩
structure api_Float where
  Side : Int
  X : Int
  Y : Int
  W : Int
  H : Int
  deriving DecidableEq
def z_api_Float : api_Float := ⟨(0 : Int), (0 : Int), (0 : Int), (0 : Int), (0 : Int)⟩
structure wrap_setter where
  f : api_Font
  b : api_Breaks
  s : ByteArray
  scale : Int
  line : Int
  align : Int
  dir : Int
  width : Int
  l : List api_Float
  deriving DecidableEq
def z_wrap_setter : wrap_setter := ⟨z_api_Font, z_api_Breaks, (⟨#[]⟩ : ByteArray), (0 : Int), (0 : Int), (0 : Int), (0 : Int), (0 : Int), ([] : List api_Float)⟩
structure api_Range where
  Lo : Int
  Hi : Int
  deriving DecidableEq
def z_api_Range : api_Range := ⟨(0 : Int), (0 : Int)⟩
structure floats_placed where
  Float : api_Float
  deriving DecidableEq
def z_floats_placed : floats_placed := ⟨z_api_Float⟩
structure formelaw21_Set where
  Scale : Int
  Line : Int
  Align : Int
  Dir : Int
  Width : Int
  Y : Int
  deriving DecidableEq
def z_formelaw21_Set : formelaw21_Set := ⟨(0 : Int), (0 : Int), (0 : Int), (0 : Int), (0 : Int), (0 : Int)⟩
def formeref21_Same_l34 (a1 : List api_Seen) (a6 : List api_Seen) (v28 : Int) : Option (Sum Unit Unit) :=
  (if v28 < (a1.length : Int) then (if (0 : Int) ≤ v28 ∧ v28 < (a1.length : Int) then (if (0 : Int) ≤ v28 ∧ v28 < (a6.length : Int) then (if ¬ (a1.getD (Int.toNat v28) z_api_Seen) = (a6.getD (Int.toNat v28) z_api_Seen) then some (Sum.inl ()) else formeref21_Same_l34 a1 a6 (w64 (v28 + 1))) else none) else none) else some (Sum.inr ()))
  partial_fixpoint
def formeref21_Same (a1 : List api_Seen) (a6 : List api_Seen) : Option (Bool) :=
  (if ¬ (a1.length : Int) = (a6.length : Int) then some false else (formeref21_Same_l34 a1 a6 0 >>= fun o43 => match o43 with | (Sum.inl _) => some false | (Sum.inr _) => some true))
def cmp_isNaN_int (a1 : Int) : Option (Bool) :=
  some (decide (¬ a1 = a1))
def cmp_Compare_int (a1 : Int) (a2 : Int) : Option (Int) :=
  (cmp_isNaN_int a1 >>= fun y12 => (cmp_isNaN_int a2 >>= fun y20 => (if y12 = true then (if y20 = true then some 0 else some (-1)) else (if y20 = true then some 1 else (if a1 < a2 then some (-1) else (if a2 < a1 then some 1 else some 0))))))
def inline_within_int (a1 : Int) (a2 : Int) (a3 : Int) : Option (Bool) :=
  (cmp_Compare_int a1 a2 >>= fun y13 => ((if 0 ≤ y13 then (cmp_Compare_int a1 a3 >>= fun y26 => some (decide (y26 ≤ 0))) else some false) >>= fun v14 => some v14))
def inline_Lines_1 (a1 : Int) : Option (Bool) :=
  (inline_within_int a1 0 1000000000 >>= fun y11 => some (!y11))
def cmp_isNaN_byte (a1 : Int) : Option (Bool) :=
  some (decide (¬ a1 = a1))
def cmp_Compare_byte (a1 : Int) (a2 : Int) : Option (Int) :=
  (cmp_isNaN_byte a1 >>= fun y12 => (cmp_isNaN_byte a2 >>= fun y20 => (if y12 = true then (if y20 = true then some 0 else some (-1)) else (if y20 = true then some 1 else (if a1 < a2 then some (-1) else (if a2 < a1 then some 1 else some 0))))))
def font_glyph_1 (a1 : api_Glyph) (a2 : Int) : Option (Int) :=
  (cmp_Compare_byte a1.Byte a2 >>= fun y16 => some y16)
def slices_BinarySearchFunc_byte_k1_l27 (a1 : List api_Glyph) (a6 : Int) (v19 : Int) (v20 : Int) : Option (Int) :=
  (if v19 < v20 then (if (0 : Int) ≤ w64 (Int.fdiv (IntKind.wrap .u64 (w64 (v19 + v20))) (2 ^ 1)) ∧ w64 (Int.fdiv (IntKind.wrap .u64 (w64 (v19 + v20))) (2 ^ 1)) < (a1.length : Int) then (font_glyph_1 (a1.getD (Int.toNat (w64 (Int.fdiv (IntKind.wrap .u64 (w64 (v19 + v20))) (2 ^ 1)))) z_api_Glyph) a6 >>= fun y59 => (if y59 < 0 then slices_BinarySearchFunc_byte_k1_l27 a1 a6 (w64 ((w64 (Int.fdiv (IntKind.wrap .u64 (w64 (v19 + v20))) (2 ^ 1))) + 1)) v20 else slices_BinarySearchFunc_byte_k1_l27 a1 a6 v19 (w64 (Int.fdiv (IntKind.wrap .u64 (w64 (v19 + v20))) (2 ^ 1))))) else none) else some v19)
  partial_fixpoint
def slices_BinarySearchFunc_byte_k1 (a1 : List api_Glyph) (a6 : Int) : Option (Int × Bool) :=
  (slices_BinarySearchFunc_byte_k1_l27 a1 a6 0 (a1.length : Int) >>= fun v28 => ((if v28 < (a1.length : Int) then (if (0 : Int) ≤ v28 ∧ v28 < (a1.length : Int) then (font_glyph_1 (a1.getD (Int.toNat v28) z_api_Glyph) a6 >>= fun y82 => some (decide (y82 = 0))) else none) else some false) >>= fun v63 => some (v28, v63)))
def font_find_byte_k1 (a1 : List api_Glyph) (a6 : Int) : Option (api_Glyph × Bool) :=
  (slices_BinarySearchFunc_byte_k1 a1 a6 >>= fun (y20, y21) => (if (!y21) = true then some ((⟨0, 0⟩ : api_Glyph), false) else (if (0 : Int) ≤ y20 ∧ y20 < (a1.length : Int) then some ((a1.getD (Int.toNat y20) z_api_Glyph), true) else none)))
def font_glyph (a1 : api_Font) (a10 : Int) : Option (api_Glyph × Bool) :=
  (font_find_byte_k1 a1.Glyphs a10 >>= fun (y28, y29) => some (y28, y29))
def cmp_Or_int_l24 (a1 : List Int) (v18 : Int) : Option (Sum Int Unit) :=
  (if v18 < (a1.length : Int) then (if (0 : Int) ≤ v18 ∧ v18 < (a1.length : Int) then (if ¬ (a1.getD (Int.toNat v18) (0 : Int)) = 0 then some (Sum.inl (a1.getD (Int.toNat v18) (0 : Int))) else cmp_Or_int_l24 a1 (w64 (v18 + 1))) else none) else some (Sum.inr ()))
  partial_fixpoint
def cmp_Or_int (a1 : List Int) : Option (Int) :=
  (cmp_Or_int_l24 a1 0 >>= fun o34 => match o34 with | (Sum.inl v25) => some v25 | (Sum.inr _) => some 0)
def font_order (a1 : api_Kern) (a2 : font_pair) : Option (Int) :=
  (cmp_Compare_byte a1.Left a2.left >>= fun y36 => (cmp_Compare_byte a1.Right a2.right >>= fun y236 => (cmp_Or_int ([y36, y236] : List Int) >>= fun y444 => some y444)))
def font_Valid_l45 (a1 : api_Font) (v39 : Int) : Option (Sum Unit Unit) :=
  (if v39 < (a1.Glyphs.length : Int) then (if (0 : Int) ≤ v39 ∧ v39 < (a1.Glyphs.length : Int) then ((if ((a1.Glyphs.getD (Int.toNat v39) z_api_Glyph).Byte) < 32 then some true else (if 126 ≤ ((a1.Glyphs.getD (Int.toNat v39) z_api_Glyph).Byte) then some true else (if ((a1.Glyphs.getD (Int.toNat v39) z_api_Glyph).Advance) < 0 then some true else (if 1000 < ((a1.Glyphs.getD (Int.toNat v39) z_api_Glyph).Advance) then some true else (if 0 < v39 then (if (0 : Int) ≤ w64 (v39 - 1) ∧ w64 (v39 - 1) < (a1.Glyphs.length : Int) then some (decide (((a1.Glyphs.getD (Int.toNat v39) z_api_Glyph).Byte) ≤ ((a1.Glyphs.getD (Int.toNat (w64 (v39 - 1))) z_api_Glyph).Byte))) else none) else some false))))) >>= fun v83 => (if v83 = true then some (Sum.inl ()) else font_Valid_l45 a1 (w64 (v39 + 1)))) else none) else some (Sum.inr ()))
  partial_fixpoint
def font_Valid_l124 (a1 : api_Font) (v118 : Int) : Option (Sum Unit Unit) :=
  (if v118 < (a1.Kerns.length : Int) then (if (0 : Int) ≤ v118 ∧ v118 < (a1.Kerns.length : Int) then (font_glyph a1 ((a1.Kerns.getD (Int.toNat v118) z_api_Kern).Left) >>= fun (y167, y168) => (font_glyph a1 ((a1.Kerns.getD (Int.toNat v118) z_api_Kern).Right) >>= fun (y182, y183) => ((if (!y168) = true then some true else some (!y183)) >>= fun v194 => ((if v194 = true then some true else some (decide (1000 < ((a1.Kerns.getD (Int.toNat v118) z_api_Kern).By)))) >>= fun v201 => ((if v201 = true then some true else some (decide (((a1.Kerns.getD (Int.toNat v118) z_api_Kern).By) < (w64 (0 - y167.Advance))))) >>= fun v208 => (if v208 = true then some (Sum.inl ()) else ((if 0 < v118 then (if (0 : Int) ≤ w64 (v118 - 1) ∧ w64 (v118 - 1) < (a1.Kerns.length : Int) then (font_order (a1.Kerns.getD (Int.toNat (w64 (v118 - 1))) z_api_Kern) (⟨(a1.Kerns.getD (Int.toNat v118) z_api_Kern).Left, (a1.Kerns.getD (Int.toNat v118) z_api_Kern).Right⟩ : font_pair) >>= fun y250 => some (decide (0 ≤ y250))) else none) else some false) >>= fun v231 => (if v231 = true then some (Sum.inl ()) else font_Valid_l124 a1 (w64 (v118 + 1)))))))))) else none) else some (Sum.inr ()))
  partial_fixpoint
def font_Valid (a1 : api_Font) : Option (Bool) :=
  ((if 94 < (a1.Glyphs.length : Int) then some true else some (decide (200 < (a1.Kerns.length : Int)))) >>= fun v20 => (if v20 = true then some false else (font_Valid_l45 a1 0 >>= fun o54 => match o54 with | (Sum.inl _) => some false | (Sum.inr _) => (font_Valid_l124 a1 0 >>= fun o133 => match o133 with | (Sum.inl _) => some false | (Sum.inr _) => some true))))
def text_Class (a1 : Int) : Option (Int) :=
  (if a1 = 32 then some 4 else (if a1 = 126 then some 6 else ((if a1 < 32 then some true else some (decide (126 < a1))) >>= fun v18 => (if v18 = true then some 0 else ((if 97 ≤ a1 then some (decide (a1 ≤ 122)) else some false) >>= fun v30 => (if v30 = true then some 1 else ((if 65 ≤ a1 then some (decide (a1 ≤ 90)) else some false) >>= fun v42 => (if v42 = true then some 2 else ((if 48 ≤ a1 then some (decide (a1 ≤ 57)) else some false) >>= fun v54 => (if v54 = true then some 3 else some 5))))))))))
def text_Valid_l22 (a1 : ByteArray) (v16 : Nat) : Option (Sum Nat Nat) :=
  (if v16 < a1.size then ((if 126 < ((Utf8.decode a1 v16).1 : Int) then some true else (text_Class (wu8 (((Utf8.decode a1 v16).1 : Int))) >>= fun y61 => some (decide (y61 = 0)))) >>= fun v49 => (if v49 = true then some (Sum.inl (v16 + (Utf8.decode a1 v16).2)) else text_Valid_l22 a1 (v16 + (Utf8.decode a1 v16).2))) else some (Sum.inr v16))
  partial_fixpoint
def text_Valid (a1 : ByteArray) : Option (Bool) :=
  (text_Valid_l22 a1 0 >>= fun o33 => match o33 with | (Sum.inl v23) => some false | (Sum.inr v24) => some (decide ((a1.size : Int) ≤ 2000)))
def breaks_within (a1 : Int) : Option (Bool) :=
  ((if 1 ≤ a1 then some (decide (a1 ≤ 5)) else some false) >>= fun v6 => some v6)
def breaks_small (a1 : Int) : Option (Bool) :=
  ((if 97 ≤ a1 then some (decide (a1 ≤ 122)) else some false) >>= fun v6 => some v6)
def breaks_Valid_l68 (a1 : api_Breaks) (v60 : Int) (v61 : List (ByteArray × Bool)) : Option (Sum (List (ByteArray × Bool)) (List (ByteArray × Bool))) :=
  (if v60 < (a1.Keep.length : Int) then (if (0 : Int) ≤ v60 ∧ v60 < (a1.Keep.length : Int) then ((if ¬ ((a1.Keep.getD (Int.toNat v60) (⟨#[]⟩ : ByteArray)).size : Int) = 2 then some true else (if (0 : Int) ≤ 0 ∧ 0 < ((a1.Keep.getD (Int.toNat v60) (⟨#[]⟩ : ByteArray)).size : Int) then (breaks_small (bt (a1.Keep.getD (Int.toNat v60) (⟨#[]⟩ : ByteArray)) 0) >>= fun y117 => some (!y117)) else none)) >>= fun v104 => ((if v104 = true then some true else (if (0 : Int) ≤ 1 ∧ 1 < ((a1.Keep.getD (Int.toNat v60) (⟨#[]⟩ : ByteArray)).size : Int) then (breaks_small (bt (a1.Keep.getD (Int.toNat v60) (⟨#[]⟩ : ByteArray)) 1) >>= fun y131 => some (!y131)) else none)) >>= fun v118 => ((if v118 = true then some true else some ((mget v61 (a1.Keep.getD (Int.toNat v60) (⟨#[]⟩ : ByteArray))).getD false)) >>= fun v132 => (if v132 = true then some (Sum.inl v61) else breaks_Valid_l68 a1 (w64 (v60 + 1)) (mput v61 (a1.Keep.getD (Int.toNat v60) (⟨#[]⟩ : ByteArray)) true))))) else none) else some (Sum.inr v61))
  partial_fixpoint
def breaks_Valid (a1 : api_Breaks) : Option (Bool) :=
  (breaks_within a1.Before >>= fun y21 => ((if (!y21) = true then some true else (breaks_within a1.Behind >>= fun y34 => some (!y34))) >>= fun v22 => ((if v22 = true then some true else some (decide (20 < (a1.Keep.length : Int)))) >>= fun v35 => (if v35 = true then some false else (breaks_Valid_l68 a1 0 ([] : List (ByteArray × Bool)) >>= fun o79 => match o79 with | (Sum.inl v69) => some false | (Sum.inr v70) => some true)))))
def breaks_prepare_l45 (a1 : api_Breaks) (v37 : Int) (v38 : List (ByteArray × Bool)) : Option ((List (ByteArray × Bool))) :=
  (if v37 < (a1.Keep.length : Int) then (if (0 : Int) ≤ v37 ∧ v37 < (a1.Keep.length : Int) then breaks_prepare_l45 a1 (w64 (v37 + 1)) (mput v38 (a1.Keep.getD (Int.toNat v37) (⟨#[]⟩ : ByteArray)) true) else none) else some v38)
  partial_fixpoint
def breaks_prepare (a1 : api_Breaks) (a6 : ByteArray) : Option (Int × Int × (List ByteArray) × ByteArray × (List (ByteArray × Bool)) × Bool) :=
  (breaks_prepare_l45 a1 0 ([] : List (ByteArray × Bool)) >>= fun v46 => ((breaks_Valid a1 >>= fun y98 => (if y98 = true then (text_Valid a6 >>= fun y299 => some y299) else some false)) >>= fun v88 => some (a1.Before, a1.Behind, a1.Keep, a6, v46, v88)))
def breaks_letter (a1 : Int) : Option (Bool) :=
  (text_Class a1 >>= fun y11 => ((if y11 = 1 then some true else (text_Class a1 >>= fun y24 => some (decide (y24 = 2)))) >>= fun v12 => some v12))
def breaks_solid (a1 : Int) : Option (Bool) :=
  (breaks_letter a1 >>= fun y11 => ((if y11 = true then some true else (text_Class a1 >>= fun y24 => some (decide (y24 = 3)))) >>= fun v12 => some v12))
def breaks_ruled_places_k1 (a1 : Int) (a2 : Int) (a3 : List ByteArray) (a8 : ByteArray) (a11 : List (ByteArray × Bool)) : Option (Int × Int × (List ByteArray) × ByteArray) :=
  some (a1, a2, a3, a8)
def breaks_ruled_letters_1_k1 (a3 : Int) (a6 : Int) (a7 : Int) (a8 : List ByteArray) (a13 : ByteArray) (a16 : List (ByteArray × Bool)) : Option (Bool) :=
  ((if 0 ≤ a3 then some (decide (a3 < (a13.size : Int))) else some false) >>= fun v21 => ((if v21 = true then (if (0 : Int) ≤ a3 ∧ a3 < (a13.size : Int) then (breaks_letter (bt a13 a3) >>= fun y41 => ((if y41 = true then some true else (if (0 : Int) ≤ a3 ∧ a3 < (a13.size : Int) then some (decide ((bt a13 a3) = 126)) else none)) >>= fun v42 => some v42)) else none) else some false) >>= fun v28 => some v28))
def breaks_ruled_letters_k1_l63 (a1 : Int) (a2 : Int) (a3 : List ByteArray) (a8 : ByteArray) (a11 : List (ByteArray × Bool)) (v43 : List Int) (v50 : Int) : Option ((List Int) × Int) :=
  (breaks_ruled_letters_1_k1 v50 a1 a2 a3 a8 a11 >>= fun y90 => (if y90 = true then ((if (0 : Int) ≤ v50 ∧ v50 < (a8.size : Int) then (if ¬ (bt a8 v50) = 126 then (if (0 : Int) ≤ v50 ∧ v50 < (a8.size : Int) then (if v43.length + 1 ≤ 140737488355328 then some (v43 ++ [bt a8 v50]) else none) else none) else some v43) else none) >>= fun v94 => breaks_ruled_letters_k1_l63 a1 a2 a3 a8 a11 v94 (w64 (v50 + (-1)))) else some (v43, v50)))
  partial_fixpoint
def breaks_ruled_letters_k1_l169 (a1 : Int) (a2 : Int) (a3 : List ByteArray) (a8 : ByteArray) (a11 : List (ByteArray × Bool)) (v149 : List Int) (v156 : Int) : Option ((List Int) × Int) :=
  (breaks_ruled_letters_1_k1 v156 a1 a2 a3 a8 a11 >>= fun y196 => (if y196 = true then ((if (0 : Int) ≤ v156 ∧ v156 < (a8.size : Int) then (if ¬ (bt a8 v156) = 126 then (if (0 : Int) ≤ v156 ∧ v156 < (a8.size : Int) then (if v149.length + 1 ≤ 140737488355328 then some (v149 ++ [bt a8 v156]) else none) else none) else some v149) else none) >>= fun v200 => breaks_ruled_letters_k1_l169 a1 a2 a3 a8 a11 v200 (w64 (v156 + 1))) else some (v149, v156)))
  partial_fixpoint
def breaks_ruled_letters_k1 (a1 : Int) (a2 : Int) (a3 : List ByteArray) (a8 : ByteArray) (a11 : List (ByteArray × Bool)) (a12 : Int) (a13 : Bool) : Option (ByteArray) :=
  (if a13 = true then (breaks_ruled_letters_k1_l63 a1 a2 a3 a8 a11 ([] : List Int) (w64 (a12 - 1)) >>= fun (v64, v71) => some (bstr v64)) else (breaks_ruled_letters_k1_l169 a1 a2 a3 a8 a11 ([] : List Int) a12 >>= fun (v170, v177) => some (bstr v170)))
def breaks_ruled_soft_k1 (a1 : Int) (a2 : Int) (a3 : List ByteArray) (a8 : ByteArray) (a11 : List (ByteArray × Bool)) (a12 : Int) : Option (Bool) :=
  (breaks_ruled_letters_k1 a1 a2 a3 a8 a11 (w64 (a12 - 1)) true >>= fun y28 => (breaks_ruled_letters_k1 a1 a2 a3 a8 a11 a12 false >>= fun y32 => ((if a12 < 2 then some true else (if (0 : Int) ≤ w64 (a12 - 2) ∧ w64 (a12 - 2) < (a8.size : Int) then (breaks_letter (bt a8 (w64 (a12 - 2))) >>= fun y51 => some (!y51)) else none)) >>= fun v38 => ((if v38 = true then some true else some (decide ((y28.size : Int) < a1))) >>= fun v52 => ((if v52 = true then some true else some (decide ((y32.size : Int) < a2))) >>= fun v59 => (if v59 = true then some false else (if (0 : Int) ≤ 1 ∧ 1 ≤ (y28.size : Int) then (if (0 : Int) ≤ 1 ∧ 1 ≤ (y32.size : Int) then (if (sub y28 0 1).size + (sub y32 0 1).size ≤ 9223372036854775807 then some (!((mget a11 ((sub y28 0 1) ++ (sub y32 0 1))).getD false)) else none) else none) else none)))))))
def breaks_ruled_places_1_k1_l36 {σ : Type} (φ : σ → api_Break → Option (σ × Bool)) (a3 : Int) (a4 : Int) (a5 : List ByteArray) (a10 : ByteArray) (a13 : List (ByteArray × Bool)) (v22 : Bool) (v23 : Int) (v25 : σ) : Option (Sum σ σ) :=
  (if v23 < (a10.size : Int) then (((if v22 = true then some true else (if (0 : Int) ≤ w64 (v23 - 1) ∧ w64 (v23 - 1) < (a10.size : Int) then some (decide (¬ (bt a10 (w64 (v23 - 1))) = 32)) else none)) >>= fun v81 => (if (0 : Int) ≤ w64 (v23 - 1) ∧ w64 (v23 - 1) < (a10.size : Int) then (if (bt a10 (w64 (v23 - 1))) = 32 then ((if v81 = true then (if (0 : Int) ≤ v23 ∧ v23 < (a10.size : Int) then some (decide (¬ (bt a10 v23) = 32)) else none) else some false) >>= fun v99 => ((if v99 = true then (if (0 : Int) ≤ w64 (v23 - 1) ∧ w64 (v23 - 1) < (a10.size : Int) then (φ v25 (⟨v23, decide ((bt a10 (w64 (v23 - 1))) = 126)⟩ : api_Break) >>= fun (s120, b121) => some (!b121, s120)) else none) else some (false, v25)) >>= fun (v109, v111) => (if v109 = true then some (Sum.inl v111) else some (Sum.inr (v81, v111))))) else (if (bt a10 (w64 (v23 - 1))) = 45 then ((if 1 < v23 then (if (0 : Int) ≤ w64 (v23 - 2) ∧ w64 (v23 - 2) < (a10.size : Int) then (breaks_solid (bt a10 (w64 (v23 - 2))) >>= fun y146 => some y146) else none) else some false) >>= fun v133 => ((if v133 = true then (if (0 : Int) ≤ v23 ∧ v23 < (a10.size : Int) then (breaks_solid (bt a10 v23) >>= fun y160 => some y160) else none) else some false) >>= fun v147 => ((if v147 = true then (if (0 : Int) ≤ w64 (v23 - 1) ∧ w64 (v23 - 1) < (a10.size : Int) then (φ v25 (⟨v23, decide ((bt a10 (w64 (v23 - 1))) = 126)⟩ : api_Break) >>= fun (s174, b175) => some (!b175, s174)) else none) else some (false, v25)) >>= fun (v163, v165) => (if v163 = true then some (Sum.inl v165) else some (Sum.inr (v81, v165)))))) else (if (bt a10 (w64 (v23 - 1))) = 126 then (breaks_ruled_soft_k1 a3 a4 a5 a10 a13 v23 >>= fun y193 => ((if y193 = true then (if (0 : Int) ≤ w64 (v23 - 1) ∧ w64 (v23 - 1) < (a10.size : Int) then (φ v25 (⟨v23, decide ((bt a10 (w64 (v23 - 1))) = 126)⟩ : api_Break) >>= fun (s207, b208) => some (!b208, s207)) else none) else some (false, v25)) >>= fun (v196, v198) => (if v196 = true then some (Sum.inl v198) else some (Sum.inr (v81, v198))))) else some (Sum.inr (v81, v25))))) else none)) >>= fun o78 => match o78 with | (Sum.inl v64) => some (Sum.inl v64) | (Sum.inr (v66, v68)) => breaks_ruled_places_1_k1_l36 φ a3 a4 a5 a10 a13 v66 (w64 (v23 + 1)) v68) else some (Sum.inr v25))
  partial_fixpoint
def breaks_ruled_places_1_k1_l36_pc := @breaks_ruled_places_1_k1_l36.partial_correctness
def breaks_ruled_places_1_k1 {σ : Type} (φ : σ → api_Break → Option (σ × Bool)) (sy : σ) (a3 : Int) (a4 : Int) (a5 : List ByteArray) (a10 : ByteArray) (a13 : List (ByteArray × Bool)) : Option (σ) :=
  (breaks_ruled_places_1_k1_l36 φ a3 a4 a5 a10 a13 false 1 sy >>= fun o51 => match o51 with | (Sum.inl v38) => some v38 | (Sum.inr v41) => some v41)
def breaks_List_r104 (v82 : List api_Break) (x112 : api_Break) : Option (((List api_Break)) × Option Nat) :=
  (if v82.length + 1 ≤ 8796093022208 then some (v82 ++ [x112], none) else none)
def breaks_List (a1 : api_Breaks) (a6 : ByteArray) : Option ((List api_Break) × Int) :=
  (breaks_prepare a1 a6 >>= fun (y20, y21, y22, y27, y30, y31) => (if (!y31) = true then some (([] : List api_Break), 1) else (breaks_ruled_places_k1 y20 y21 y22 y27 y30 >>= fun (y71, y72, y73, y78) => (breaks_ruled_places_1_k1 (rnd (fun (u : (List api_Break)) (x : api_Break) => breaks_List_r104 u x)) (([] : List api_Break), none) y71 y72 y73 y78 y30 >>= fun (v82, jo106) => match jo106 with | none => some (v82, 0) | some _ => none))))
def inline_prepare_1 (a1 : api_Break) : Option (Bool) :=
  some a1.Hyphen
def font_Has_l62 (a1 : api_Font) (a10 : ByteArray) (v56 : Nat) : Option (Sum Nat Nat) :=
  (if v56 < a10.size then (font_glyph a1 (wu8 (((Utf8.decode a10 v56).1 : Int))) >>= fun (y94, y95) => ((if (!y95) = true then some (decide (¬ ((Utf8.decode a10 v56).1 : Int) = 126)) else some false) >>= fun v104 => (if v104 = true then some (Sum.inl (v56 + (Utf8.decode a10 v56).2)) else font_Has_l62 a1 a10 (v56 + (Utf8.decode a10 v56).2)))) else some (Sum.inr v56))
  partial_fixpoint
def font_Has (a1 : api_Font) (a10 : ByteArray) : Option (Bool × Int) :=
  (font_Valid a1 >>= fun y26 => ((if (!y26) = true then some true else (text_Valid a10 >>= fun y39 => some (!y39))) >>= fun v27 => (if v27 = true then some (false, 1) else (font_Has_l62 a1 a10 0 >>= fun o73 => match o73 with | (Sum.inl v63) => some (false, 0) | (Sum.inr v64) => some (true, 0)))))
def font_pairs (a1 : ByteArray) : Option (ByteArray) :=
  some a1
def font_pairs_1_k1_l30 {σ : Type} (φ : σ → font_pair → Option (σ × Bool)) (a3 : ByteArray) (v16 : Int) (v17 : Nat) (v19 : σ) : Option (Sum (Nat × σ) (Nat × σ)) :=
  (if v17 < a3.size then (if ((Utf8.decode a3 v17).1 : Int) = 126 then font_pairs_1_k1_l30 φ a3 v16 (v17 + (Utf8.decode a3 v17).2) v19 else (φ v19 (⟨v16, wu8 (((Utf8.decode a3 v17).1 : Int))⟩ : font_pair) >>= fun (s70, b71) => (if (!b71) = true then some (Sum.inl (v17 + (Utf8.decode a3 v17).2, s70)) else font_pairs_1_k1_l30 φ a3 (wu8 (((Utf8.decode a3 v17).1 : Int))) (v17 + (Utf8.decode a3 v17).2) s70))) else some (Sum.inr (v17, v19)))
  partial_fixpoint
def font_pairs_1_k1 {σ : Type} (φ : σ → font_pair → Option (σ × Bool)) (sy : σ) (a3 : ByteArray) : Option (σ) :=
  (font_pairs_1_k1_l30 φ a3 0 0 sy >>= fun o47 => match o47 with | (Sum.inl (v31, v33)) => some v33 | (Sum.inr (v35, v37)) => some v37)
def slices_BinarySearchFunc_font_pair_k1_l31 (a1 : List api_Kern) (a6 : font_pair) (v23 : Int) (v24 : Int) : Option (Int) :=
  (if v23 < v24 then (if (0 : Int) ≤ w64 (Int.fdiv (IntKind.wrap .u64 (w64 (v23 + v24))) (2 ^ 1)) ∧ w64 (Int.fdiv (IntKind.wrap .u64 (w64 (v23 + v24))) (2 ^ 1)) < (a1.length : Int) then (font_order (a1.getD (Int.toNat (w64 (Int.fdiv (IntKind.wrap .u64 (w64 (v23 + v24))) (2 ^ 1)))) z_api_Kern) a6 >>= fun y71 => (if y71 < 0 then slices_BinarySearchFunc_font_pair_k1_l31 a1 a6 (w64 ((w64 (Int.fdiv (IntKind.wrap .u64 (w64 (v23 + v24))) (2 ^ 1))) + 1)) v24 else slices_BinarySearchFunc_font_pair_k1_l31 a1 a6 v23 (w64 (Int.fdiv (IntKind.wrap .u64 (w64 (v23 + v24))) (2 ^ 1))))) else none) else some v23)
  partial_fixpoint
def slices_BinarySearchFunc_font_pair_k1 (a1 : List api_Kern) (a6 : font_pair) : Option (Int × Bool) :=
  (slices_BinarySearchFunc_font_pair_k1_l31 a1 a6 0 (a1.length : Int) >>= fun v32 => ((if v32 < (a1.length : Int) then (if (0 : Int) ≤ v32 ∧ v32 < (a1.length : Int) then (font_order (a1.getD (Int.toNat v32) z_api_Kern) a6 >>= fun y103 => some (decide (y103 = 0))) else none) else some false) >>= fun v84 => some (v32, v84)))
def font_find_font_pair_k1 (a1 : List api_Kern) (a6 : font_pair) : Option (api_Kern × Bool) :=
  (slices_BinarySearchFunc_font_pair_k1 a1 a6 >>= fun (y24, y25) => (if (!y25) = true then some ((⟨0, 0, 0⟩ : api_Kern), false) else (if (0 : Int) ≤ y24 ∧ y24 < (a1.length : Int) then some ((a1.getD (Int.toNat y24) z_api_Kern), true) else none)))
def font_Raw_r67 (a1 : api_Font) (v65 : Int) (x75 : font_pair) : Option ((Int) × Option Nat) :=
  (font_glyph a1 x75.right >>= fun (y97, y98) => (font_find_font_pair_k1 a1.Kerns x75 >>= fun (y112, y113) => some (w64 (v65 + (w64 (y97.Advance + y112.By))), none)))
def font_Raw (a1 : api_Font) (a10 : ByteArray) : Option (Int × Int) :=
  (font_Has a1 a10 >>= fun (y24, y25) => (if ¬ y25 = 0 then some (0, y25) else (if (!y24) = true then some (0, 20) else (font_pairs a10 >>= fun y63 => (font_pairs_1_k1 (rnd (fun (u : Int) (x : font_pair) => font_Raw_r67 a1 u x)) (0, none) y63 >>= fun (v65, jo69) => match jo69 with | none => some (v65, 0) | some _ => none)))))
def font_Width (a1 : api_Font) (a10 : ByteArray) (a11 : Int) : Option (Int × Int) :=
  (font_Raw a1 a10 >>= fun (y25, y26) => ((if y26 = 1 then some true else some (decide (a11 < 50))) >>= fun v31 => ((if v31 = true then some true else some (decide (300 < a11))) >>= fun v38 => (if v38 = true then some (0, 1) else (if ¬ y26 = 0 then some (0, y26) else some (w64 (Int.tdiv (w64 ((w64 (y25 * a11)) + 99)) 100), 0))))))
def slices_IndexFunc_api_Break_k1_l22 (a1 : List api_Break) (v16 : Int) : Option (Sum Int Unit) :=
  (if v16 < (a1.length : Int) then (if (0 : Int) ≤ v16 ∧ v16 < (a1.length : Int) then (inline_prepare_1 (a1.getD (Int.toNat v16) z_api_Break) >>= fun y60 => (if y60 = true then some (Sum.inl v16) else slices_IndexFunc_api_Break_k1_l22 a1 (w64 (v16 + 1)))) else none) else some (Sum.inr ()))
  partial_fixpoint
def slices_IndexFunc_api_Break_k1 (a1 : List api_Break) : Option (Int) :=
  (slices_IndexFunc_api_Break_k1_l22 a1 0 >>= fun o32 => match o32 with | (Sum.inl v23) => some v23 | (Sum.inr _) => some (-1))
def slices_ContainsFunc_api_Break_k1 (a1 : List api_Break) : Option (Bool) :=
  (slices_IndexFunc_api_Break_k1 a1 >>= fun y15 => some (decide (0 ≤ y15)))
def inline_prepare (a1 : api_Font) (a10 : api_Breaks) (a15 : ByteArray) (a16 : Int) : Option ((Sum (ByteArray × (List api_Break)) (Sum (ByteArray × (List api_Break)) (ByteArray × (List api_Break) × api_Font × Int)))) :=
  (breaks_List a10 a15 >>= fun (y42, y49) => ((if ¬ y49 = 0 then some true else (font_Valid a1 >>= fun y70 => some (!y70))) >>= fun v54 => ((if v54 = true then some true else (inline_within_int a16 50 300 >>= fun y87 => some (!y87))) >>= fun v75 => (if v75 = true then some (Sum.inl ((⟨#[]⟩ : ByteArray), ([] : List api_Break))) else (slices_ContainsFunc_api_Break_k1 y42 >>= fun y108 => (if y108 = true then (font_Has a1 a15 >>= fun (y119, y120) => (if (!y119) = true then some (Sum.inr (Sum.inl ((⟨#[]⟩ : ByteArray), ([] : List api_Break)))) else (font_Has a1 (⟨#[45]⟩ : ByteArray) >>= fun (y141, y142) => (if (!y141) = true then some (Sum.inr (Sum.inl ((⟨#[]⟩ : ByteArray), ([] : List api_Break)))) else (if y42.length + 1 ≤ 8796093022208 then some (Sum.inr (Sum.inr (a15, y42 ++ [(⟨(a15.size : Int), false⟩ : api_Break)], a1, a16))) else none))))) else (font_Has a1 a15 >>= fun (y188, y189) => (if (!y188) = true then some (Sum.inr (Sum.inl ((⟨#[]⟩ : ByteArray), ([] : List api_Break)))) else (if y42.length + 1 ≤ 8796093022208 then some (Sum.inr (Sum.inr (a15, y42 ++ [(⟨(a15.size : Int), false⟩ : api_Break)], a1, a16))) else none)))))))))
def text_Words_l41 (a1 : ByteArray) (v31 : Int) (v32 : Bool) (v33 : Nat) : Option (Int × Nat) :=
  (if v33 < a1.size then (text_Class (wu8 (((Utf8.decode a1 v33).1 : Int))) >>= fun y69 => (((if y69 = 6 then some (Sum.inl ()) else (if y69 = 4 then some (Sum.inr (Sum.inr (Sum.inr ()))) else (if y69 = 1 then some (Sum.inr (Sum.inr (Sum.inl ()))) else (if y69 = 2 then some (Sum.inr (Sum.inr (Sum.inl ()))) else (if y69 = 3 then some (Sum.inr (Sum.inr (Sum.inl ()))) else some (Sum.inr (Sum.inl ()))))))) >>= fun o102 => match o102 with | (Sum.inl _) => some (Sum.inr v32) | (Sum.inr (Sum.inl _)) => some (Sum.inl ()) | (Sum.inr (Sum.inr (Sum.inl _))) => some (Sum.inl ()) | (Sum.inr (Sum.inr (Sum.inr _))) => some (Sum.inr false)) >>= fun o81 => match o81 with | (Sum.inl _) => (if (!v32) = true then text_Words_l41 a1 (w64 (v31 + 1)) true (v33 + (Utf8.decode a1 v33).2) else text_Words_l41 a1 v31 true (v33 + (Utf8.decode a1 v33).2)) | (Sum.inr v72) => text_Words_l41 a1 v31 v72 (v33 + (Utf8.decode a1 v33).2))) else some (v31, v33))
  partial_fixpoint
def text_Words (a1 : ByteArray) : Option (Int × Int) :=
  (text_Valid a1 >>= fun y13 => (if (!y13) = true then some (0, 1) else (text_Words_l41 a1 0 false 0 >>= fun (v42, v43) => some (v42, 0))))
def slices_Backward_api_Break (a1 : List api_Break) : Option ((List api_Break)) :=
  some a1
def strings_Trim (s t : ByteArray) : Option ByteArray :=
  if s.size ≤ 9223372036854775807 then match t.data.toList with
    | [b] => if b.toNat < 128 then some ⟨(Lib.trimB s.data.toList b).toArray⟩ else none
    | _ => none
  else none
def strings_ReplaceAll (s t u : ByteArray) : Option ByteArray :=
  if s.size < 4294967281 ∧ 1 ≤ t.size ∧ u.size = 0 then some ⟨(Lib.replaceAll s.data.toList t.data.toList u.data.toList).toArray⟩ else none
def inline_seen (a1 : ByteArray) (a2 : Int) (a3 : Int) (a4 : Bool) : Option (ByteArray) :=
  (if (0 : Int) ≤ a2 ∧ (a2 : Int) ≤ a3 ∧ a3 ≤ (a1.size : Int) then (strings_ReplaceAll (sub a1 a2 a3) (⟨#[126]⟩ : ByteArray) (⟨#[]⟩ : ByteArray) >>= fun y17 => (strings_Trim y17 (⟨#[32]⟩ : ByteArray) >>= fun y23 => (if a4 = true then (if y23.size + (⟨#[45]⟩ : ByteArray).size ≤ 9223372036854775807 then some (y23 ++ (⟨#[45]⟩ : ByteArray)) else none) else some y23))) else none)
def slices_IndexFunc_int_k1_l22 (a1 : List Int) (v16 : Int) : Option (Sum Int Unit) :=
  (if v16 < (a1.length : Int) then (if (0 : Int) ≤ v16 ∧ v16 < (a1.length : Int) then (inline_Lines_1 (a1.getD (Int.toNat v16) (0 : Int)) >>= fun y60 => (if y60 = true then some (Sum.inl v16) else slices_IndexFunc_int_k1_l22 a1 (w64 (v16 + 1)))) else none) else some (Sum.inr ()))
  partial_fixpoint
def slices_IndexFunc_int_k1 (a1 : List Int) : Option (Int) :=
  (slices_IndexFunc_int_k1_l22 a1 0 >>= fun o32 => match o32 with | (Sum.inl v23) => some v23 | (Sum.inr _) => some (-1))
def slices_ContainsFunc_int_k1 (a1 : List Int) : Option (Bool) :=
  (slices_IndexFunc_int_k1 a1 >>= fun y15 => some (decide (0 ≤ y15)))
def inline_setter_lines_k1 (a1 : ByteArray) (a2 : List api_Break) (a9 : api_Font) (a20 : Int) (a21 : List Int) : Option (ByteArray × (List api_Break) × (List Int)) :=
  some (a1, a2, a21)
def inline_setter_next_1_k1 (a1 : api_Break) (a4 : Int) : Option (Bool) :=
  some (decide (a4 < a1.At))
def slices_IndexFunc_api_Break_k2_l25 (a1 : List api_Break) (a8 : Int) (v19 : Int) : Option (Sum Int Unit) :=
  (if v19 < (a1.length : Int) then (if (0 : Int) ≤ v19 ∧ v19 < (a1.length : Int) then (inline_setter_next_1_k1 (a1.getD (Int.toNat v19) z_api_Break) a8 >>= fun y63 => (if y63 = true then some (Sum.inl v19) else slices_IndexFunc_api_Break_k2_l25 a1 a8 (w64 (v19 + 1)))) else none) else some (Sum.inr ()))
  partial_fixpoint
def slices_IndexFunc_api_Break_k2 (a1 : List api_Break) (a8 : Int) : Option (Int) :=
  (slices_IndexFunc_api_Break_k2_l25 a1 a8 0 >>= fun o35 => match o35 with | (Sum.inl v26) => some v26 | (Sum.inr _) => some (-1))
def slices_Backward_1_api_Break_k1_l26 {σ : Type} (φ : σ → (Int × api_Break) → Option (σ × Bool)) (a3 : List api_Break) (v14 : Int) (v16 : σ) : Option (Sum σ σ) :=
  (if 0 ≤ v14 then (if (0 : Int) ≤ v14 ∧ v14 < (a3.length : Int) then (φ v16 (v14, (a3.getD (Int.toNat v14) z_api_Break)) >>= fun (s62, b63) => (if (!b63) = true then some (Sum.inl s62) else slices_Backward_1_api_Break_k1_l26 φ a3 (w64 (v14 - 1)) s62)) else none) else some (Sum.inr v16))
  partial_fixpoint
def slices_Backward_1_api_Break_k1 {σ : Type} (φ : σ → (Int × api_Break) → Option (σ × Bool)) (sy : σ) (a3 : List api_Break) : Option (σ) :=
  (slices_Backward_1_api_Break_k1_l26 φ a3 (w64 ((a3.length : Int) - 1)) sy >>= fun o41 => match o41 with | (Sum.inl v28) => some v28 | (Sum.inr v31) => some v31)
def inline_prepare_2_k1 (a1 : ByteArray) (a4 : api_Font) (a15 : Int) : Option (Int) :=
  (font_Width a4 a1 a15 >>= fun (y25, y26) => some y25)
def inline_setter_line_k1 (a1 : ByteArray) (a2 : List api_Break) (a9 : api_Font) (a20 : Int) (a21 : Int) (a22 : api_Break) : Option (api_Line) :=
  (inline_seen a1 a21 a22.At a22.Hyphen >>= fun y64 => (inline_prepare_2_k1 y64 a9 a20 >>= fun y264 => some (⟨a21, a22.At, y264, a22.Hyphen⟩ : api_Line)))
def inline_setter_next_k1_r97 (a1 : ByteArray) (a2 : List api_Break) (a9 : api_Font) (a20 : Int) (a21 : Int) (a22 : Int) (v89 : Int) (v90 : Int) (v91 : Int) (v92 : Bool) (x105 : Int) (x107 : api_Break) : Option ((Int × Int × Int × Bool) × Option Nat) :=
  (inline_setter_line_k1 a1 a2 a9 a20 a21 x107 >>= fun y141 => (if y141.Width ≤ a22 then some ((y141.From, y141.Until, y141.Width, y141.Hyphen), (some 0)) else some ((v89, v90, v91, v92), none)))
def inline_setter_next_k1 (a1 : ByteArray) (a2 : List api_Break) (a9 : api_Font) (a20 : Int) (a21 : Int) (a22 : Int) : Option (api_Line) :=
  (slices_IndexFunc_api_Break_k2 a2 a21 >>= fun y57 => (if (0 : Int) ≤ y57 ∧ (y57 : Int) ≤ (a2.length : Int) then (slices_Backward_api_Break (cutl a2 y57 (a2.length : Int)) >>= fun y83 => (slices_Backward_1_api_Break_k1 (rnd (fun (u : Int × Int × Int × Bool) (x : Int × api_Break) => inline_setter_next_k1_r97 a1 a2 a9 a20 a21 a22 u.1 u.2.1 u.2.2.1 u.2.2.2 x.1 x.2)) ((0, 0, 0, false), none) y83 >>= fun ((v89, v90, v91, v92), jo99) => match jo99 with | none => (if (0 : Int) ≤ 0 ∧ 0 < ((cutl a2 y57 (a2.length : Int)).length : Int) then (inline_setter_line_k1 a1 a2 a9 a20 a21 ((cutl a2 y57 (a2.length : Int)).getD (Int.toNat 0) z_api_Break) >>= fun y238 => some y238) else none) | some 0 => some (⟨v89, v90, v91, v92⟩ : api_Line) | some _ => none)) else none))
def inline_setter_lines_1_k1_l50 {σ : Type} (φ : σ → api_Line → Option (σ × Bool)) (a3 : ByteArray) (a4 : List api_Break) (a11 : api_Font) (a22 : Int) (a25 : List Int) (v36 : Int) (v37 : Int) (v39 : σ) : Option (σ) :=
  (if (0 : Int) ≤ v36 ∧ (v36 : Int) ≤ (a3.size : Int) then (text_Words (sub a3 v36 (a3.size : Int)) >>= fun (y75, y76) => (if y75 = 0 then some v39 else (if (0 : Int) ≤ min v37 (w64 ((a25.length : Int) - 1)) ∧ min v37 (w64 ((a25.length : Int) - 1)) < (a25.length : Int) then (inline_setter_next_k1 a3 a4 a11 a22 v36 (a25.getD (Int.toNat (min v37 (w64 ((a25.length : Int) - 1)))) (0 : Int)) >>= fun y128 => (φ v39 y128 >>= fun (s347, b348) => (if (!b348) = true then some s347 else inline_setter_lines_1_k1_l50 φ a3 a4 a11 a22 a25 y128.Until (w64 (v37 + 1)) s347))) else none))) else none)
  partial_fixpoint
def inline_setter_lines_1_k1_l50_pc := @inline_setter_lines_1_k1_l50.partial_correctness
def inline_setter_lines_1_k1 {σ : Type} (φ : σ → api_Line → Option (σ × Bool)) (sy : σ) (a3 : ByteArray) (a4 : List api_Break) (a11 : api_Font) (a22 : Int) (a25 : List Int) : Option (σ) :=
  (inline_setter_lines_1_k1_l50 φ a3 a4 a11 a22 a25 0 0 sy >>= fun v52 => some v52)
def slices_AppendSeq_api_Line_k2_r63 (v43 : List api_Line) (x71 : api_Line) : Option (((List api_Line)) × Option Nat) :=
  (if v43.length + 1 ≤ 4398046511104 then some (v43 ++ [x71], none) else none)
def slices_AppendSeq_api_Line_k2 (a3 : ByteArray) (a4 : List api_Break) (a11 : api_Font) (a22 : Int) (a25 : List Int) : Option ((List api_Line)) :=
  (inline_setter_lines_1_k1 (rnd (fun (u : (List api_Line)) (x : api_Line) => slices_AppendSeq_api_Line_k2_r63 u x)) (([] : List api_Line), none) a3 a4 a11 a22 a25 >>= fun (v43, jo65) => match jo65 with | none => some v43 | some _ => none)
def slices_Collect_api_Line_k1 (a3 : ByteArray) (a4 : List api_Break) (a11 : api_Font) (a22 : Int) (a25 : List Int) : Option ((List api_Line)) :=
  (slices_AppendSeq_api_Line_k2 a3 a4 a11 a22 a25 >>= fun y39 => some y39)
def inline_Lines (a1 : api_Font) (a10 : api_Breaks) (a15 : ByteArray) (a16 : Int) (a17 : List Int) : Option ((List api_Line) × Int) :=
  ((if (a17.length : Int) = 0 then some true else (slices_ContainsFunc_int_k1 a17 >>= fun y50 => some y50)) >>= fun v38 => (if v38 = true then some (([] : List api_Line), 1) else (inline_prepare a1 a10 a15 a16 >>= fun o60 => match o60 with | (Sum.inl (y65, y66)) => some (([] : List api_Line), 1) | (Sum.inr (Sum.inl (y92, y93))) => some (([] : List api_Line), 20) | (Sum.inr (Sum.inr (y119, y120, y129, y140))) => (inline_setter_lines_k1 y119 y120 y129 y140 a17 >>= fun (y166, y167, y174) => (slices_Collect_api_Line_k1 y166 y167 y129 y140 y174 >>= fun y192 => some (y192, 0))))))
def floats_within (a1 : Int) (a2 : Int) : Option (Bool) :=
  ((if 0 ≤ a1 then some (decide (a1 ≤ a2)) else some false) >>= fun v7 => some v7)
def floats_wrong (a1 : api_Float) : Option (Bool) :=
  ((if ¬ a1.Side = 1 then some (decide (¬ a1.Side = 2)) else some false) >>= fun v10 => ((if v10 = true then some true else (floats_within a1.X 1000000 >>= fun y29 => some (!y29))) >>= fun v17 => ((if v17 = true then some true else (floats_within a1.W 1000000 >>= fun y42 => some (!y42))) >>= fun v30 => ((if v30 = true then some true else (floats_within a1.H 1000000 >>= fun y55 => some (!y55))) >>= fun v43 => ((if v43 = true then some true else (floats_within a1.Y 1000000000 >>= fun y68 => some (!y68))) >>= fun v56 => some v56)))))
def slices_IndexFunc_api_Float_k1_l22 (a1 : List api_Float) (v16 : Int) : Option (Sum Int Unit) :=
  (if v16 < (a1.length : Int) then (if (0 : Int) ≤ v16 ∧ v16 < (a1.length : Int) then (floats_wrong (a1.getD (Int.toNat v16) z_api_Float) >>= fun y60 => (if y60 = true then some (Sum.inl v16) else slices_IndexFunc_api_Float_k1_l22 a1 (w64 (v16 + 1)))) else none) else some (Sum.inr ()))
  partial_fixpoint
def slices_IndexFunc_api_Float_k1 (a1 : List api_Float) : Option (Int) :=
  (slices_IndexFunc_api_Float_k1_l22 a1 0 >>= fun o32 => match o32 with | (Sum.inl v23) => some v23 | (Sum.inr _) => some (-1))
def slices_ContainsFunc_api_Float_k1 (a1 : List api_Float) : Option (Bool) :=
  (slices_IndexFunc_api_Float_k1 a1 >>= fun y15 => some (decide (0 ≤ y15)))
def floats_Valid (a1 : List api_Float) (a6 : Int) : Option (Bool) :=
  (floats_within a6 1000000 >>= fun y16 => ((if y16 = true then some (decide ((a1.length : Int) ≤ 200)) else some false) >>= fun v17 => ((if v17 = true then (slices_ContainsFunc_api_Float_k1 a1 >>= fun y36 => some (!y36)) else some false) >>= fun v24 => some v24)))
def inline_Next (a1 : api_Font) (a10 : api_Breaks) (a15 : ByteArray) (a16 : Int) (a17 : Int) (a18 : Int) : Option (api_Line × Int) :=
  (inline_within_int a16 0 (w64 ((a15.size : Int) - 1)) >>= fun y42 => ((if (!y42) = true then some true else (inline_within_int a18 0 1000000000 >>= fun y55 => some (!y55))) >>= fun v43 => (if v43 = true then some ((⟨0, 0, 0, false⟩ : api_Line), 1) else (inline_prepare a1 a10 a15 a17 >>= fun o66 => match o66 with | (Sum.inl (y71, y72)) => some ((⟨0, 0, 0, false⟩ : api_Line), 1) | (Sum.inr (Sum.inl (y99, y100))) => some ((⟨0, 0, 0, false⟩ : api_Line), 20) | (Sum.inr (Sum.inr (y127, y128, y137, y148))) => (inline_setter_next_k1 y127 y128 y137 y148 a16 a18 >>= fun y173 => some (y173, 0))))))
def wrap_setter_check (a1 : wrap_setter) (a18 : Int) : Option (Int) :=
  (text_Valid a1.s >>= fun y34 => ((if (!y34) = true then some true else (floats_Valid a1.l a1.width >>= fun y47 => some (!y47))) >>= fun v35 => ((if v35 = true then some true else some (decide (a1.line < 0))) >>= fun v48 => ((if v48 = true then some true else some (decide (1000000 < a1.line))) >>= fun v55 => ((if v55 = true then some true else some (decide (a18 < 0))) >>= fun v62 => ((if v62 = true then some true else some (decide (1000000000 < a18))) >>= fun v69 => (if v69 = true then some 1 else ((if a1.align < 0 then some true else some (decide (2 < a1.align))) >>= fun v84 => ((if v84 = true then some true else some (decide (a1.dir < 0))) >>= fun v91 => ((if v91 = true then some true else some (decide (1 < a1.dir))) >>= fun v98 => (if v98 = true then some 1 else (if a1.s = (⟨#[]⟩ : ByteArray) then (inline_Lines a1.f a1.b (⟨#[]⟩ : ByteArray) a1.scale ([a1.width] : List Int) >>= fun (y129, y136) => some y136) else (inline_Next a1.f a1.b a1.s 0 a1.scale a1.width >>= fun (y147, y148) => some y148)))))))))))))
def wrap_setter_heights (a1 : wrap_setter) (a18 : Int) : Option (wrap_setter × Int) :=
  some (a1, a18)
def wrap_setter_beside (a1 : wrap_setter) (a18 : Int) : Option (Int × wrap_setter) :=
  some (a18, a1)
def wrap_setter_beside_1_k1 (a1 : api_Float) (a4 : Int) (a7 : wrap_setter) : Option (Bool) :=
  ((if 0 < a1.H then some (decide (a1.Y < (w64 (a4 + (max a7.line 1))))) else some false) >>= fun v32 => ((if v32 = true then some (decide (a4 < (w64 (a1.Y + a1.H)))) else some false) >>= fun v39 => some v39))
def slices_Min_int_l38 (a1 : List Int) (v30 : Int) (v31 : Int) : Option (Int) :=
  (if v31 < (a1.length : Int) then (if (0 : Int) ≤ v31 ∧ v31 < (a1.length : Int) then slices_Min_int_l38 a1 (min v30 (a1.getD (Int.toNat v31) (0 : Int))) (w64 (v31 + 1)) else none) else some v30)
  partial_fixpoint
def slices_Min_int (a1 : List Int) : Option (Int) :=
  (if (a1.length : Int) < 1 then none else (if (0 : Int) ≤ 0 ∧ 0 < (a1.length : Int) then (slices_Min_int_l38 a1 (a1.getD (Int.toNat 0) (0 : Int)) 1 >>= fun v39 => some v39) else none))
def wrap_setter_heights_1_k1_l112 (a3 : wrap_setter) (y64 : Int) (y67 : wrap_setter) (v92 : List Int) (v99 : Int) : Option ((List Int)) :=
  (if v99 < (a3.l.length : Int) then ((if (0 : Int) ≤ v99 ∧ v99 < (a3.l.length : Int) then (wrap_setter_beside_1_k1 (a3.l.getD (Int.toNat v99) z_api_Float) y64 y67 >>= fun y176 => (if y176 = true then (if v92.length + 1 ≤ 17592186044416 then some (v92 ++ [w64 (((a3.l.getD (Int.toNat v99) z_api_Float).Y) + ((a3.l.getD (Int.toNat v99) z_api_Float).H))]) else none) else some v92)) else none) >>= fun v136 => wrap_setter_heights_1_k1_l112 a3 y64 y67 v136 (w64 (v99 + 1))) else some v92)
  partial_fixpoint
def wrap_setter_heights_1_k1_l39 {σ : Type} (φ : σ → (Int × Bool) → Option (σ × Bool)) (a3 : wrap_setter) (v27 : Int) (v29 : σ) : Option (Int × σ) :=
  (wrap_setter_beside a3 v27 >>= fun (y64, y67) => (wrap_setter_heights_1_k1_l112 a3 y64 y67 ([] : List Int) 0 >>= fun v113 => (φ v29 (v27, decide (0 < (v113.length : Int))) >>= fun (s214, b215) => ((if (!b215) = true then some true else some (decide ((v113.length : Int) = 0))) >>= fun v223 => (if v223 = true then some (v27, s214) else (slices_Min_int v113 >>= fun y239 => wrap_setter_heights_1_k1_l39 φ a3 y239 s214))))))
  partial_fixpoint
def wrap_setter_heights_1_k1 {σ : Type} (φ : σ → (Int × Bool) → Option (σ × Bool)) (sy : σ) (a3 : wrap_setter) (a22 : Int) : Option (Int × σ) :=
  (wrap_setter_heights_1_k1_l39 φ a3 a22 sy >>= fun (v40, v42) => some (v40, v42))
def floats_placed_bottom (a1 : floats_placed) : Option (Int) :=
  some (w64 (a1.Float.Y + a1.Float.H))
def floats_placed_beside (a1 : floats_placed) (a2 : Int) (a3 : Int) : Option (Bool) :=
  ((if 0 < a1.Float.H then some (decide (a1.Float.Y < (w64 (a2 + (max a3 1))))) else some false) >>= fun v12 => ((if v12 = true then (floats_placed_bottom a1 >>= fun y31 => some (decide (a2 < y31))) else some false) >>= fun v19 => some v19))
def floats_room_l43 (a1 : List api_Float) (a7 : Int) (a8 : Int) (v31 : Bool) (v32 : Int) (v33 : Int) (v34 : Int) : Option (Bool × Int × Int) :=
  (if v32 < (a1.length : Int) then ((if (0 : Int) ≤ v32 ∧ v32 < (a1.length : Int) then (floats_placed_beside (⟨(a1.getD (Int.toNat v32) z_api_Float)⟩ : floats_placed) a7 a8 >>= fun y103 => (if (!y103) = true then some (v31, v33, v34) else (if ((a1.getD (Int.toNat v32) z_api_Float).Side) = 1 then some (true, max v33 (w64 (((a1.getD (Int.toNat v32) z_api_Float).X) + ((a1.getD (Int.toNat v32) z_api_Float).W))), v34) else some (true, v33, min v34 ((a1.getD (Int.toNat v32) z_api_Float).X))))) else none) >>= fun (v63, v64, v65) => floats_room_l43 a1 a7 a8 v63 (w64 (v32 + 1)) v64 v65) else some (v31, v33, v34))
  partial_fixpoint
def floats_room (a1 : List api_Float) (a6 : Int) (a7 : Int) (a8 : Int) : Option (api_Range × Bool) :=
  (floats_room_l43 a1 a7 a8 false 0 0 a6 >>= fun (v44, v45, v46) => some ((⟨v45, max v45 v46⟩ : api_Range), v44))
def floats_Room (a1 : List api_Float) (a6 : Int) (a7 : Int) (a8 : Int) : Option (api_Range × Int) :=
  (floats_Valid a1 a6 >>= fun y24 => ((if (!y24) = true then some true else (floats_within a7 1000000000 >>= fun y37 => some (!y37))) >>= fun v25 => ((if v25 = true then some true else (floats_within a8 1000000 >>= fun y50 => some (!y50))) >>= fun v38 => (if v38 = true then some ((⟨0, 0⟩ : api_Range), 1) else (floats_room a1 a6 a7 a8 >>= fun (y65, y66) => some (y65, 0))))))
def bidi_isLine (a1 : ByteArray) (a2 : Int) : Option (Bool) :=
  (text_Valid a1 >>= fun y12 => ((if y12 = true then ((if a2 = 0 then some true else some (decide (a2 = 1))) >>= fun v20 => some v20) else some false) >>= fun v13 => some v13))
def bidi_runs_byte_k1 (a1 : List Int) : Option ((List Int)) :=
  some a1
def bidi_directions_2 (a1 : Int) : Option (Bool) :=
  (text_Class a1 >>= fun y11 => some (decide (3 < y11)))
def bidi_runs_1_byte_k1_l69 (a3 : List Int) (v63 : Int) : Option (Int) :=
  ((if v63 < (a3.length : Int) then (if (0 : Int) ≤ v63 ∧ v63 < (a3.length : Int) then (bidi_directions_2 (a3.getD (Int.toNat v63) (0 : Int)) >>= fun y112 => some y112) else none) else some false) >>= fun v93 => (if v93 = true then bidi_runs_1_byte_k1_l69 a3 (w64 (v63 + 1)) else some v63))
  partial_fixpoint
def bidi_runs_1_byte_k1_l28 {σ : Type} (φ : σ → (Int × Int) → Option (σ × Bool)) (a3 : List Int) (v16 : Int) (v18 : σ) : Option (Sum σ σ) :=
  (if v16 < (a3.length : Int) then (bidi_runs_1_byte_k1_l69 a3 v16 >>= fun v70 => ((if v16 < v70 then (φ v18 (v16, v70) >>= fun (s128, b129) => some (!b129, s128)) else some (false, v18)) >>= fun (v118, v120) => (if v118 = true then some (Sum.inl v120) else bidi_runs_1_byte_k1_l28 φ a3 (w64 ((max v16 v70) + 1)) v120))) else some (Sum.inr v18))
  partial_fixpoint
def bidi_runs_1_byte_k1 {σ : Type} (φ : σ → (Int × Int) → Option (σ × Bool)) (sy : σ) (a3 : List Int) : Option (σ) :=
  (bidi_runs_1_byte_k1_l28 φ a3 0 sy >>= fun o43 => match o43 with | (Sum.inl v30) => some v30 | (Sum.inr v33) => some v33)
def bidi_directions_1_k1 (a1 : Int) (a4 : List Int) (a17 : Int) : Option (Int) :=
  ((if a1 < 0 then some true else some (decide ((a4.length : Int) ≤ a1))) >>= fun v24 => (if v24 = true then some a17 else (if (0 : Int) ≤ a1 ∧ a1 < (a4.length : Int) then some (a4.getD (Int.toNat a1) (0 : Int)) else none)))
def bidi_fill_k1_l33 (a1 : List Int) (a12 : Int) (v19 : List Int) (v21 : Int) : Option ((List Int)) :=
  (if v21 < (a1.length : Int) then (if (0 : Int) ≤ v21 ∧ v21 < (a1.length : Int) then bidi_fill_k1_l33 a1 a12 (List.set v19 (Int.toNat v21) a12) (w64 (v21 + 1)) else none) else some v19)
  partial_fixpoint
def bidi_fill_k1 (a1 : List Int) (a12 : Int) : Option ((List Int)) :=
  (bidi_fill_k1_l33 a1 a12 a1 0 >>= fun v34 => some v34)
def bidi_directions_l50 (a1 : ByteArray) (v34 : List Int) (v36 : Int) (v37 : Int) : Option ((List Int)) :=
  (if v37 < ((List.replicate (Int.toNat (a1.size : Int)) (0 : Int)).length : Int) then ((if (0 : Int) ≤ v37 ∧ v37 < (a1.size : Int) then (text_Class (bt a1 v37) >>= fun y93 => (if y93 = 1 then (if (0 : Int) ≤ v37 ∧ v37 < ((List.replicate (Int.toNat (a1.size : Int)) (0 : Int)).length : Int) then some (List.set v34 (Int.toNat v37) 0, 0) else none) else (if y93 = 2 then (if (0 : Int) ≤ v37 ∧ v37 < ((List.replicate (Int.toNat (a1.size : Int)) (0 : Int)).length : Int) then some (List.set v34 (Int.toNat v37) 1, 1) else none) else (if (0 : Int) ≤ v37 ∧ v37 < ((List.replicate (Int.toNat (a1.size : Int)) (0 : Int)).length : Int) then some (List.set v34 (Int.toNat v37) v36, v36) else none)))) else none) >>= fun (v71, v73) => bidi_directions_l50 a1 v71 v73 (w64 (v37 + 1))) else some v34)
  partial_fixpoint
def bidi_directions_r170 (a1 : ByteArray) (a2 : Int) (v162 : List Int) (x178 : Int) (x180 : Int) : Option (((List Int)) × Option Nat) :=
  (bidi_directions_1_k1 (w64 (x178 - 1)) v162 a2 >>= fun y204 => (bidi_directions_1_k1 x180 v162 a2 >>= fun y212 => (if y204 = y212 then (if (0 : Int) ≤ x178 ∧ (x178 : Int) ≤ x180 ∧ x180 ≤ ((List.replicate (Int.toNat (a1.size : Int)) (0 : Int)).length : Int) then (bidi_fill_k1 (cutl v162 x178 x180) y204 >>= fun y228 => some (List.take (Int.toNat x178) v162 ++ (y228 ++ List.drop (Int.toNat x180) v162), none)) else none) else (if (0 : Int) ≤ x178 ∧ (x178 : Int) ≤ x180 ∧ x180 ≤ ((List.replicate (Int.toNat (a1.size : Int)) (0 : Int)).length : Int) then (bidi_fill_k1 (cutl v162 x178 x180) a2 >>= fun y249 => some (List.take (Int.toNat x178) v162 ++ (y249 ++ List.drop (Int.toNat x180) v162), none)) else none))))
def bidi_directions (a1 : ByteArray) (a2 : Int) : Option ((List Int)) :=
  (if (0 : Int) ≤ (a1.size : Int) ∧ (8 : Int) * (a1.size : Int) ≤ 281474976710656 ∧ (a1.size : Int) ≤ 9223372036854775807 then (bidi_directions_l50 a1 (List.replicate (Int.toNat (a1.size : Int)) (0 : Int)) a2 0 >>= fun v51 => (bidi_runs_byte_k1 (sbytes a1) >>= fun y153 => (bidi_runs_1_byte_k1 (rnd (fun (u : (List Int)) (x : Int × Int) => bidi_directions_r170 a1 a2 u x.1 x.2)) (v51, none) y153 >>= fun (v162, jo172) => match jo172 with | none => some v162 | some _ => none))) else none)
def bidi_Levels_l66 (a1 : ByteArray) (a2 : Int) (y37 : List Int) (v52 : List Int) (v54 : Int) : Option ((List Int)) :=
  (if v54 < (y37.length : Int) then ((if (0 : Int) ≤ v54 ∧ v54 < (y37.length : Int) then (if (0 : Int) ≤ a2 ∧ a2 < (2 : Int) then (if (0 : Int) ≤ (v52.getD (Int.toNat v54) (0 : Int)) ∧ (v52.getD (Int.toNat v54) (0 : Int)) < (2 : Int) then (if (0 : Int) ≤ v54 ∧ v54 < (y37.length : Int) then ((if (v52.getD (Int.toNat v54) (0 : Int)) = 1 then (if (0 : Int) ≤ v54 ∧ v54 < (a1.size : Int) then (text_Class (bt a1 v54) >>= fun y131 => some (decide (y131 = 3))) else none) else some false) >>= fun v118 => (if v118 = true then (if (0 : Int) ≤ v54 ∧ v54 < (y37.length : Int) then some (List.set (List.set v52 (Int.toNat v54) (([0, 1, 2, 1] : List Int).getD (0 + Int.toNat a2 * 2 + Int.toNat (v52.getD (Int.toNat v54) (0 : Int)) * 1) 0)) (Int.toNat v54) 2) else none) else some (List.set v52 (Int.toNat v54) (([0, 1, 2, 1] : List Int).getD (0 + Int.toNat a2 * 2 + Int.toNat (v52.getD (Int.toNat v54) (0 : Int)) * 1) 0)))) else none) else none) else none) else none) >>= fun v87 => bidi_Levels_l66 a1 a2 y37 v87 (w64 (v54 + 1))) else some v52)
  partial_fixpoint
def bidi_Levels (a1 : ByteArray) (a2 : Int) : Option ((List Int) × Int) :=
  (bidi_isLine a1 a2 >>= fun y14 => (if (!y14) = true then some (([] : List Int), 1) else (bidi_directions a1 a2 >>= fun y37 => (bidi_Levels_l66 a1 a2 y37 y37 0 >>= fun v67 => some (v67, 0)))))
def slices_Clone_int_k1 (a1 : List Int) : Option ((List Int) × (List Int)) :=
  (if ([] : List Int).length + a1.length ≤ 17592186044416 then some (([] : List Int) ++ a1, a1) else none)
def bidi_runs_int_k2 (a1 : List Int) (a8 : List Int) (a15 : Int) : Option ((List Int)) :=
  some a1
def bidi_turn_1_k1 (a1 : Int) (a4 : List Int) (a11 : Int) : Option (Bool) :=
  (if (0 : Int) ≤ a1 ∧ a1 < (a4.length : Int) then some (decide (a11 ≤ (a4.getD (Int.toNat a1) (0 : Int)))) else none)
def bidi_runs_1_int_k1_l79 (a3 : List Int) (a12 : List Int) (a19 : Int) (v73 : Int) : Option (Int) :=
  ((if v73 < (a3.length : Int) then (if (0 : Int) ≤ v73 ∧ v73 < (a3.length : Int) then (bidi_turn_1_k1 (a3.getD (Int.toNat v73) (0 : Int)) a12 a19 >>= fun y126 => some y126) else none) else some false) >>= fun v103 => (if v103 = true then bidi_runs_1_int_k1_l79 a3 a12 a19 (w64 (v73 + 1)) else some v73))
  partial_fixpoint
def bidi_runs_1_int_k1_l38 {σ : Type} (φ : σ → (Int × Int) → Option (σ × Bool)) (a3 : List Int) (a12 : List Int) (a19 : Int) (v26 : Int) (v28 : σ) : Option (Sum σ σ) :=
  (if v26 < (a3.length : Int) then (bidi_runs_1_int_k1_l79 a3 a12 a19 v26 >>= fun v80 => ((if v26 < v80 then (φ v28 (v26, v80) >>= fun (s146, b147) => some (!b147, s146)) else some (false, v28)) >>= fun (v136, v138) => (if v136 = true then some (Sum.inl v138) else bidi_runs_1_int_k1_l38 φ a3 a12 a19 (w64 ((max v26 v80) + 1)) v138))) else some (Sum.inr v28))
  partial_fixpoint
def bidi_runs_1_int_k1 {σ : Type} (φ : σ → (Int × Int) → Option (σ × Bool)) (sy : σ) (a3 : List Int) (a12 : List Int) (a19 : Int) : Option (σ) :=
  (bidi_runs_1_int_k1_l38 φ a3 a12 a19 0 sy >>= fun o53 => match o53 with | (Sum.inl v40) => some v40 | (Sum.inr v43) => some v43)
def slices_Reverse_int_k1_l34 (a1 : List Int) (v18 : List Int) (v20 : Int) (v21 : Int) : Option ((List Int)) :=
  (if v20 < v21 then (if (0 : Int) ≤ v21 ∧ v21 < (a1.length : Int) then (if (0 : Int) ≤ v20 ∧ v20 < (a1.length : Int) then (if (0 : Int) ≤ v20 ∧ v20 < (a1.length : Int) then (if (0 : Int) ≤ v21 ∧ v21 < (a1.length : Int) then slices_Reverse_int_k1_l34 a1 (List.set (List.set v18 (Int.toNat v20) (v18.getD (Int.toNat v21) (0 : Int))) (Int.toNat v21) (v18.getD (Int.toNat v20) (0 : Int))) (w64 (v20 + 1)) (w64 (v21 - 1)) else none) else none) else none) else none) else some v18)
  partial_fixpoint
def slices_Reverse_int_k1 (a1 : List Int) : Option ((List Int)) :=
  (slices_Reverse_int_k1_l34 a1 a1 0 (w64 ((a1.length : Int) - 1)) >>= fun v35 => some v35)
def bidi_turn_k3_r153 (a1 : List Int) (v135 : List Int) (x161 : Int) (x163 : Int) : Option (((List Int)) × Option Nat) :=
  (if (0 : Int) ≤ x161 ∧ (x161 : Int) ≤ x163 ∧ x163 ≤ (a1.length : Int) then (slices_Reverse_int_k1 (cutl v135 x161 x163) >>= fun y184 => some (List.take (Int.toNat x161) v135 ++ (y184 ++ List.drop (Int.toNat x163) v135), none)) else none)
def bidi_turn_k3_l54 (a1 : List Int) (a12 : List Int) (a17 : List Int) (v38 : List Int) (v40 : Int) : Option ((List Int)) :=
  (if v40 < (a17.length : Int) then (if (0 : Int) ≤ v40 ∧ v40 < (a17.length : Int) then (slices_Clone_int_k1 v38 >>= fun (y105, y112) => (bidi_runs_int_k2 y105 a12 (a17.getD (Int.toNat v40) (0 : Int)) >>= fun y126 => (bidi_runs_1_int_k1 (rnd (fun (u : (List Int)) (x : Int × Int) => bidi_turn_k3_r153 a1 u x.1 x.2)) (y112, none) y126 a12 (a17.getD (Int.toNat v40) (0 : Int)) >>= fun (v135, jo155) => match jo155 with | none => bidi_turn_k3_l54 a1 a12 a17 v135 (w64 (v40 + 1)) | some _ => none))) else none) else some v38)
  partial_fixpoint
def bidi_turn_k3 (a1 : List Int) (a12 : List Int) (a17 : List Int) : Option ((List Int)) :=
  (bidi_turn_k3_l54 a1 a12 a17 a1 0 >>= fun v55 => some v55)
def bidi_Order_l61 (a1 : ByteArray) (v47 : List Int) (v49 : Int) : Option ((List Int)) :=
  (if v49 < ((List.replicate (Int.toNat (a1.size : Int)) (0 : Int)).length : Int) then (if (0 : Int) ≤ v49 ∧ v49 < ((List.replicate (Int.toNat (a1.size : Int)) (0 : Int)).length : Int) then bidi_Order_l61 a1 (List.set v47 (Int.toNat v49) v49) (w64 (v49 + 1)) else none) else some v47)
  partial_fixpoint
def bidi_Order (a1 : ByteArray) (a2 : Int) : Option ((List Int) × Int) :=
  (bidi_Levels a1 a2 >>= fun (y12, y19) => (if ¬ y19 = 0 then some (([] : List Int), y19) else (if (0 : Int) ≤ (a1.size : Int) ∧ (8 : Int) * (a1.size : Int) ≤ 281474976710656 ∧ (a1.size : Int) ≤ 9223372036854775807 then (bidi_Order_l61 a1 (List.replicate (Int.toNat (a1.size : Int)) (0 : Int)) 0 >>= fun v62 => (bidi_turn_k3 v62 y12 ([2, 1] : List Int) >>= fun y127 => some (y127, 0))) else none)))
def bidi_Visual_l51 (a1 : ByteArray) (y12 : List Int) (v37 : List Int) (v39 : Int) : Option ((List Int)) :=
  (if v39 < (y12.length : Int) then (if (0 : Int) ≤ v39 ∧ v39 < (y12.length : Int) then (if (0 : Int) ≤ y12.getD (Int.toNat v39) (0 : Int) ∧ y12.getD (Int.toNat v39) (0 : Int) < (a1.size : Int) then (if (0 : Int) ≤ v39 ∧ v39 < ((List.replicate (Int.toNat (y12.length : Int)) (0 : Int)).length : Int) then bidi_Visual_l51 a1 y12 (List.set v37 (Int.toNat v39) (bt a1 (y12.getD (Int.toNat v39) (0 : Int)))) (w64 (v39 + 1)) else none) else none) else none) else some v37)
  partial_fixpoint
def bidi_Visual (a1 : ByteArray) (a2 : Int) : Option (ByteArray × Int) :=
  (bidi_Order a1 a2 >>= fun (y12, y19) => (if (0 : Int) ≤ (y12.length : Int) ∧ (1 : Int) * (y12.length : Int) ≤ 281474976710656 ∧ (y12.length : Int) ≤ 9223372036854775807 then (bidi_Visual_l51 a1 y12 (List.replicate (Int.toNat (y12.length : Int)) (0 : Int)) 0 >>= fun v52 => some (bstr v52, y19)) else none))
def inline_Place (a1 : api_Font) (a10 : ByteArray) (a11 : api_Line) (a12 : Int) (a13 : Int) (a14 : Int) (a15 : Int) : Option (ByteArray × Int × Int) :=
  (inline_within_int a12 50 300 >>= fun y33 => ((if y33 = true then (inline_within_int a13 0 1000000000 >>= fun y46 => some y46) else some false) >>= fun v34 => ((if v34 = true then (inline_within_int a14 0 2 >>= fun y59 => some y59) else some false) >>= fun v47 => ((if v47 = true then (inline_within_int a15 0 1 >>= fun y72 => some y72) else some false) >>= fun v60 => ((if (!v60) = true then some true else (font_Valid a1 >>= fun y89 => some (!y89))) >>= fun v77 => ((if v77 = true then some true else (text_Valid a10 >>= fun y102 => some (!y102))) >>= fun v90 => ((if v90 = true then some true else some (decide (a11.From < 0))) >>= fun v103 => ((if v103 = true then some true else some (decide (a11.Until ≤ a11.From))) >>= fun v110 => ((if v110 = true then some true else some (decide ((a10.size : Int) < a11.Until))) >>= fun v117 => (if v117 = true then some ((⟨#[]⟩ : ByteArray), 0, 1) else (inline_seen a10 a11.From a11.Until a11.Hyphen >>= fun y135 => (font_Width a1 y135 a12 >>= fun (y143, y144) => (if ¬ y144 = 0 then some ((⟨#[]⟩ : ByteArray), 0, y144) else (if ¬ y143 = a11.Width then some ((⟨#[]⟩ : ByteArray), 0, 1) else (bidi_Visual y135 a15 >>= fun (y168, y169) => (if a14 = a15 then some (y168, 0, 0) else (if a14 = 2 then some (y168, Int.fdiv (w64 (a13 - y143)) (2 ^ 1), 0) else some (y168, w64 (a13 - y143), 0))))))))))))))))))
def wrap_setter_set_r88 (a1 : wrap_setter) (a18 : Int) (v74 : Bool) (v75 : Int) (v76 : ByteArray) (v77 : Int) (v78 : Int) (v79 : Int) (v80 : Int) (x96 : Int) (x98 : Bool) : Option ((Bool × Int × ByteArray × Int × Int × Int × Int) × Option Nat) :=
  (floats_Room a1.l a1.width x96 a1.line >>= fun (y112, y113) => (if ¬ y113 = 0 then some ((false, 0, (⟨#[]⟩ : ByteArray), 0, 0, 0, 0), (some 0)) else (inline_Next a1.f a1.b a1.s a18 a1.scale (w64 (y112.Hi - y112.Lo)) >>= fun (y149, y150) => ((if (w64 (y112.Hi - y112.Lo)) < y149.Width then some x98 else some false) >>= fun v161 => (if v161 = true then some ((v74, v75, v76, v77, v78, v79, v80), none) else (inline_Place a1.f a1.s y149 a1.scale (w64 (y112.Hi - y112.Lo)) a1.align a1.dir >>= fun (y183, y184, y185) => some ((true, y149.Until, y183, w64 (y112.Lo + y184), x96, y149.Width, a1.line), (some 0))))))))
def wrap_setter_set (a1 : wrap_setter) (a18 : Int) (a19 : Int) : Option (api_Seen × Int × Bool) :=
  (wrap_setter_heights a1 a19 >>= fun (y53, y72) => (wrap_setter_heights_1_k1 (rnd (fun (u : Bool × Int × ByteArray × Int × Int × Int × Int) (x : Int × Bool) => wrap_setter_set_r88 a1 a18 u.1 u.2.1 u.2.2.1 u.2.2.2.1 u.2.2.2.2.1 u.2.2.2.2.2.1 u.2.2.2.2.2.2 x.1 x.2)) ((false, 0, (⟨#[]⟩ : ByteArray), 0, 0, 0, 0), none) y53 y72 >>= fun (y219, (v74, v75, v76, v77, v78, v79, v80), jo90) => match jo90 with | none => some ((⟨(⟨#[]⟩ : ByteArray), 0, 0, 0, 0⟩ : api_Seen), 0, false) | some 0 => some ((⟨v76, v77, v78, v79, v80⟩ : api_Seen), v75, v74) | some _ => none))
def wrap_all_k1_l57 (a1 : ByteArray) (a3 : Int) (a4 : wrap_setter) (v35 : Int) (v36 : List api_Seen) (v43 : Int) : Option (Sum Unit (Int × (List api_Seen))) :=
  (if (0 : Int) ≤ v43 ∧ (v43 : Int) ≤ (a1.size : Int) then (text_Words (sub a1 v43 (a1.size : Int)) >>= fun (y91, y92) => (if y91 = 0 then some (Sum.inr (v35, v36)) else (wrap_setter_set a4 v43 v35 >>= fun (y109, y110, y111) => (if (!y111) = true then some (Sum.inl ()) else (if v36.length + 1 ≤ 2932031007402 then wrap_all_k1_l57 a1 a3 a4 (w64 (y109.Y + a3)) (v36 ++ [y109]) y110 else none))))) else none)
  partial_fixpoint
def wrap_all_k1 (a1 : ByteArray) (a2 : Int) (a3 : Int) (a4 : wrap_setter) : Option ((List api_Seen) × Int × Bool) :=
  (wrap_all_k1_l57 a1 a3 a4 a2 ([] : List api_Seen) 0 >>= fun o74 => match o74 with | (Sum.inl _) => some (([] : List api_Seen), 0, false) | (Sum.inr (v58, v59)) => some (v59, v58, decide (v58 ≤ 1000000000)))
def wrap_Lines (a1 : api_Font) (a10 : api_Breaks) (a15 : ByteArray) (a16 : Int) (a17 : Int) (a18 : Int) (a19 : Int) (a20 : Int) (a21 : Int) (a22 : List api_Float) : Option ((List api_Seen) × Int × Int) :=
  (wrap_setter_check (⟨a1, a10, a15, a16, a17, a18, a19, a20, a22⟩ : wrap_setter) a21 >>= fun y54 => (if ¬ y54 = 0 then some (([] : List api_Seen), 0, y54) else (wrap_all_k1 a15 a21 a17 (⟨a1, a10, a15, a16, a17, a18, a19, a20, a22⟩ : wrap_setter) >>= fun (y70, y77, y78) => (if (!y78) = true then some (([] : List api_Seen), 0, 3) else some (y70, y77, 0)))))
def formelaw21_ten_l51 (v31 : Int) (v32 : List api_Glyph) : Option ((List api_Glyph)) :=
  (if v31 ≤ 104 then (if v32.length + 1 ≤ 8796093022208 then formelaw21_ten_l51 (wu8 (v31 + 1)) (v32 ++ [(⟨v31, 10⟩ : api_Glyph)]) else none) else some v32)
  partial_fixpoint
def formelaw21_ten : Option (api_Font) :=
  (formelaw21_ten_l51 97 ([(⟨32, 10⟩ : api_Glyph), (⟨45, 10⟩ : api_Glyph)] : List api_Glyph) >>= fun v52 => some (⟨v52, ([] : List api_Kern)⟩ : api_Font))
def formelaw21_head : Option (Bool) :=
  (formelaw21_ten >>= fun y40 => (wrap_Lines y40 (⟨1, 1, ([] : List ByteArray)⟩ : api_Breaks) (⟨#[97, 98, 32, 99, 100, 32, 101, 102]⟩ : ByteArray) 100 12 0 0 50 0 ([(⟨1, 0, 0, 30, 20⟩ : api_Float)] : List api_Float) >>= fun (y240, y247, y248) => (formelaw21_ten >>= fun y452 => (wrap_Lines y452 (⟨1, 1, ([] : List ByteArray)⟩ : api_Breaks) (⟨#[97, 98, 32, 99, 100, 32, 101, 102]⟩ : ByteArray) 100 12 0 0 50 0 ([(⟨1, 0, 0, 45, 20⟩ : api_Float)] : List api_Float) >>= fun (y652, y659, y660) => (formelaw21_ten >>= fun y864 => (wrap_Lines y864 (⟨1, 1, ([] : List ByteArray)⟩ : api_Breaks) (⟨#[32]⟩ : ByteArray) 100 12 0 0 50 7 ([(⟨1, 0, 0, 45, 20⟩ : api_Float)] : List api_Float) >>= fun (y1064, y1071, y1072) => (formelaw21_ten >>= fun y1276 => (wrap_Lines y1276 (⟨1, 1, ([] : List ByteArray)⟩ : api_Breaks) (⟨#[120]⟩ : ByteArray) 100 12 0 0 50 0 ([] : List api_Float) >>= fun (y1476, y1483, y1484) => (formelaw21_ten >>= fun y1688 => (wrap_Lines y1688 (⟨1, 1, ([] : List ByteArray)⟩ : api_Breaks) (⟨#[97]⟩ : ByteArray) 100 12 3 0 50 0 ([] : List api_Float) >>= fun (y1888, y1895, y1896) => ((if y248 = 0 then some (decide (y660 = 0)) else some false) >>= fun v2091 => ((if v2091 = true then some (decide (y1072 = 0)) else some false) >>= fun v2114 => ((if v2114 = true then some (decide (y1484 = 20)) else some false) >>= fun v2121 => ((if v2121 = true then some (decide (y1896 = 1)) else some false) >>= fun v2128 => ((if v2128 = true then (formeref21_Same y240 ([(⟨(⟨#[97, 98]⟩ : ByteArray), 30, 0, 20, 12⟩ : api_Seen), (⟨(⟨#[99, 100]⟩ : ByteArray), 30, 12, 20, 12⟩ : api_Seen), (⟨(⟨#[101, 102]⟩ : ByteArray), 0, 24, 20, 12⟩ : api_Seen)] : List api_Seen) >>= fun y2157 => some y2157) else some false) >>= fun v2137 => ((if v2137 = true then some (decide (y247 = 36)) else some false) >>= fun v2167 => ((if v2167 = true then (formeref21_Same y652 ([(⟨(⟨#[97, 98, 32, 99, 100]⟩ : ByteArray), 0, 20, 50, 12⟩ : api_Seen), (⟨(⟨#[101, 102]⟩ : ByteArray), 0, 32, 20, 12⟩ : api_Seen)] : List api_Seen) >>= fun y2196 => some y2196) else some false) >>= fun v2176 => ((if v2176 = true then some (decide (y659 = 44)) else some false) >>= fun v2206 => ((if v2206 = true then some (decide ((y1064.length : Int) = 0)) else some false) >>= fun v2213 => ((if v2213 = true then some (decide (y1071 = 7)) else some false) >>= fun v2220 => some v2220))))))))))))))))))))
def formeref07_Few (a1 : api_Font) : Option (Bool) :=
  ((if (a1.Glyphs.length : Int) ≤ 100 then some (decide ((a1.Kerns.length : Int) ≤ 210)) else some false) >>= fun v18 => some v18)
def formeref21_Few (a1 : api_Font) (a10 : ByteArray) (a11 : List api_Float) : Option (Bool) :=
  (formeref07_Few a1 >>= fun y29 => ((if y29 = true then some (decide ((a10.size : Int) ≤ 80)) else some false) >>= fun v30 => ((if v30 = true then some (decide ((a11.length : Int) ≤ 20)) else some false) >>= fun v37 => some v37)))
def formelaw21_lines (a1 : api_Font) (a10 : api_Breaks) (a15 : ByteArray) (a16 : formelaw21_Set) (a17 : List api_Float) : Option ((List api_Seen) × Int × Int) :=
  (wrap_Lines a1 a10 a15 a16.Scale a16.Line a16.Align a16.Dir a16.Width a16.Y a17 >>= fun (y43, y50, y51) => some (y43, y50, y51))
def formeref06_Class (a1 : Int) : Option (Int) :=
  ((if 97 ≤ a1 then some (decide (a1 ≤ 122)) else some false) >>= fun v8 => (if v8 = true then some 1 else ((if 65 ≤ a1 then some (decide (a1 ≤ 90)) else some false) >>= fun v22 => (if v22 = true then some 2 else ((if 48 ≤ a1 then some (decide (a1 ≤ 57)) else some false) >>= fun v36 => (if v36 = true then some 3 else (if a1 = 32 then some 4 else (if a1 = 126 then some 6 else ((if 32 < a1 then some (decide (a1 < 126)) else some false) >>= fun v64 => (if v64 = true then some 5 else some 0))))))))))
def formeref06_Valid_l18 (a1 : ByteArray) (v12 : Int) : Option (Sum Unit Unit) :=
  (if v12 < (a1.size : Int) then (if (0 : Int) ≤ v12 ∧ v12 < (a1.size : Int) then (formeref06_Class (bt a1 v12) >>= fun y47 => (if y47 = 0 then some (Sum.inl ()) else formeref06_Valid_l18 a1 (w64 (v12 + 1)))) else none) else some (Sum.inr ()))
  partial_fixpoint
def formeref06_Valid (a1 : ByteArray) : Option (Bool) :=
  (formeref06_Valid_l18 a1 0 >>= fun o27 => match o27 with | (Sum.inl _) => some false | (Sum.inr _) => some (decide ((a1.size : Int) ≤ 2000)))
def formeref20_size (a1 : Int) : Option (Bool) :=
  ((if 0 ≤ a1 then some (decide (a1 ≤ 1000000)) else some false) >>= fun v6 => some v6)
def formeref20_high (a1 : Int) : Option (Bool) :=
  ((if 0 ≤ a1 then some (decide (a1 ≤ 1000000000)) else some false) >>= fun v6 => some v6)
def formeref20_Valid_l45 (a1 : List api_Float) (v39 : Int) : Option (Sum Unit Unit) :=
  (if v39 < (a1.length : Int) then (if (0 : Int) ≤ v39 ∧ v39 < (a1.length : Int) then (formeref20_size ((a1.getD (Int.toNat v39) z_api_Float).X) >>= fun y80 => (if (0 : Int) ≤ v39 ∧ v39 < (a1.length : Int) then (formeref20_high ((a1.getD (Int.toNat v39) z_api_Float).Y) >>= fun y95 => (if (0 : Int) ≤ v39 ∧ v39 < (a1.length : Int) then (formeref20_size ((a1.getD (Int.toNat v39) z_api_Float).W) >>= fun y110 => (if (0 : Int) ≤ v39 ∧ v39 < (a1.length : Int) then (formeref20_size ((a1.getD (Int.toNat v39) z_api_Float).H) >>= fun y125 => ((if (!y80) = true then some true else some (!y95)) >>= fun v128 => ((if v128 = true then some true else some (!y110)) >>= fun v135 => ((if v135 = true then some true else some (!y125)) >>= fun v142 => ((if v142 = true then some true else (if (0 : Int) ≤ v39 ∧ v39 < (a1.length : Int) then some (decide (((a1.getD (Int.toNat v39) z_api_Float).Side) < 1)) else none)) >>= fun v149 => ((if v149 = true then some true else (if (0 : Int) ≤ v39 ∧ v39 < (a1.length : Int) then some (decide (2 < ((a1.getD (Int.toNat v39) z_api_Float).Side))) else none)) >>= fun v163 => (if v163 = true then some (Sum.inl ()) else formeref20_Valid_l45 a1 (w64 (v39 + 1))))))))) else none)) else none)) else none)) else none) else some (Sum.inr ()))
  partial_fixpoint
def formeref20_Valid (a1 : List api_Float) (a6 : Int) : Option (Bool) :=
  (formeref20_size a6 >>= fun y16 => ((if (!y16) = true then some true else some (decide (200 < (a1.length : Int)))) >>= fun v21 => (if v21 = true then some false else (formeref20_Valid_l45 a1 0 >>= fun o54 => match o54 with | (Sum.inl _) => some false | (Sum.inr _) => some true))))
def formeref07_Glyph_l31 (a1 : api_Font) (a10 : Int) (v25 : Int) : Option (Sum Int Unit) :=
  (if v25 < (a1.Glyphs.length : Int) then (if (0 : Int) ≤ v25 ∧ v25 < (a1.Glyphs.length : Int) then (if ((a1.Glyphs.getD (Int.toNat v25) z_api_Glyph).Byte) = a10 then some (Sum.inl v25) else formeref07_Glyph_l31 a1 a10 (w64 (v25 + 1))) else none) else some (Sum.inr ()))
  partial_fixpoint
def formeref07_Glyph (a1 : api_Font) (a10 : Int) : Option (Int) :=
  (formeref07_Glyph_l31 a1 a10 0 >>= fun o41 => match o41 with | (Sum.inl v32) => some v32 | (Sum.inr _) => some (-1))
def formeref07_Valid_l45 (a1 : api_Font) (v39 : Int) : Option (Sum Unit Unit) :=
  (if v39 < (a1.Glyphs.length : Int) then (if (0 : Int) ≤ v39 ∧ v39 < (a1.Glyphs.length : Int) then ((if ((a1.Glyphs.getD (Int.toNat v39) z_api_Glyph).Byte) < 32 then some true else (if 125 < ((a1.Glyphs.getD (Int.toNat v39) z_api_Glyph).Byte) then some true else (if ((a1.Glyphs.getD (Int.toNat v39) z_api_Glyph).Advance) < 0 then some true else (if 1000 < ((a1.Glyphs.getD (Int.toNat v39) z_api_Glyph).Advance) then some true else (if 0 < v39 then (if (0 : Int) ≤ w64 (v39 - 1) ∧ w64 (v39 - 1) < (a1.Glyphs.length : Int) then some (decide (((a1.Glyphs.getD (Int.toNat v39) z_api_Glyph).Byte) ≤ ((a1.Glyphs.getD (Int.toNat (w64 (v39 - 1))) z_api_Glyph).Byte))) else none) else some false))))) >>= fun v83 => (if v83 = true then some (Sum.inl ()) else formeref07_Valid_l45 a1 (w64 (v39 + 1)))) else none) else some (Sum.inr ()))
  partial_fixpoint
def formeref07_Valid_l124 (a1 : api_Font) (v118 : Int) : Option (Sum Unit Unit) :=
  (if v118 < (a1.Kerns.length : Int) then (if (0 : Int) ≤ v118 ∧ v118 < (a1.Kerns.length : Int) then (formeref07_Glyph a1 ((a1.Kerns.getD (Int.toNat v118) z_api_Kern).Left) >>= fun y167 => (formeref07_Glyph a1 ((a1.Kerns.getD (Int.toNat v118) z_api_Kern).Right) >>= fun y175 => ((if y167 < 0 then some true else (if y175 < 0 then some true else (if ((a1.Kerns.getD (Int.toNat v118) z_api_Kern).By) < (-1000) then some true else (if 1000 < ((a1.Kerns.getD (Int.toNat v118) z_api_Kern).By) then some true else (if (0 : Int) ≤ y167 ∧ y167 < (a1.Glyphs.length : Int) then some (decide ((w64 (((a1.Glyphs.getD (Int.toNat y167) z_api_Glyph).Advance) + ((a1.Kerns.getD (Int.toNat v118) z_api_Kern).By))) < 0)) else none))))) >>= fun v180 => (if v180 = true then some (Sum.inl ()) else ((if 0 < v118 then (if (0 : Int) ≤ w64 (v118 - 1) ∧ w64 (v118 - 1) < (a1.Kerns.length : Int) then (if ((a1.Kerns.getD (Int.toNat v118) z_api_Kern).Left) < ((a1.Kerns.getD (Int.toNat (w64 (v118 - 1))) z_api_Kern).Left) then some true else (if (0 : Int) ≤ w64 (v118 - 1) ∧ w64 (v118 - 1) < (a1.Kerns.length : Int) then (if ((a1.Kerns.getD (Int.toNat v118) z_api_Kern).Left) = ((a1.Kerns.getD (Int.toNat (w64 (v118 - 1))) z_api_Kern).Left) then (if (0 : Int) ≤ w64 (v118 - 1) ∧ w64 (v118 - 1) < (a1.Kerns.length : Int) then some (decide (((a1.Kerns.getD (Int.toNat v118) z_api_Kern).Right) ≤ ((a1.Kerns.getD (Int.toNat (w64 (v118 - 1))) z_api_Kern).Right))) else none) else some false) else none)) else none) else some false) >>= fun v205 => (if v205 = true then some (Sum.inl ()) else formeref07_Valid_l124 a1 (w64 (v118 + 1)))))))) else none) else some (Sum.inr ()))
  partial_fixpoint
def formeref07_Valid (a1 : api_Font) : Option (Bool) :=
  ((if 94 < (a1.Glyphs.length : Int) then some true else some (decide (200 < (a1.Kerns.length : Int)))) >>= fun v20 => (if v20 = true then some false else (formeref07_Valid_l45 a1 0 >>= fun o54 => match o54 with | (Sum.inl _) => some false | (Sum.inr _) => (formeref07_Valid_l124 a1 0 >>= fun o133 => match o133 with | (Sum.inl _) => some false | (Sum.inr _) => some true))))
def formeref08_Valid_l143 (a1 : api_Breaks) (v56 : Int) (v137 : Int) : Option (Sum Unit Unit) :=
  (if v137 < v56 then (if (0 : Int) ≤ v137 ∧ v137 < (a1.Keep.length : Int) then (if (a1.Keep.getD (Int.toNat v137) (⟨#[]⟩ : ByteArray)) = (a1.Keep.getD (Int.toNat v56) (⟨#[]⟩ : ByteArray)) then some (Sum.inl ()) else formeref08_Valid_l143 a1 v56 (w64 (v137 + 1))) else none) else some (Sum.inr ()))
  partial_fixpoint
def formeref08_Valid_l62 (a1 : api_Breaks) (v56 : Int) : Option (Sum Unit Unit) :=
  (if v56 < (a1.Keep.length : Int) then (if (0 : Int) ≤ v56 ∧ v56 < (a1.Keep.length : Int) then ((if ¬ ((a1.Keep.getD (Int.toNat v56) (⟨#[]⟩ : ByteArray)).size : Int) = 2 then some true else (if (0 : Int) ≤ 0 ∧ 0 < ((a1.Keep.getD (Int.toNat v56) (⟨#[]⟩ : ByteArray)).size : Int) then some (decide ((bt (a1.Keep.getD (Int.toNat v56) (⟨#[]⟩ : ByteArray)) 0) < 97)) else none)) >>= fun v96 => ((if v96 = true then some true else (if (0 : Int) ≤ 0 ∧ 0 < ((a1.Keep.getD (Int.toNat v56) (⟨#[]⟩ : ByteArray)).size : Int) then some (decide (122 < (bt (a1.Keep.getD (Int.toNat v56) (⟨#[]⟩ : ByteArray)) 0))) else none)) >>= fun v104 => ((if v104 = true then some true else (if (0 : Int) ≤ 1 ∧ 1 < ((a1.Keep.getD (Int.toNat v56) (⟨#[]⟩ : ByteArray)).size : Int) then some (decide ((bt (a1.Keep.getD (Int.toNat v56) (⟨#[]⟩ : ByteArray)) 1) < 97)) else none)) >>= fun v112 => ((if v112 = true then some true else (if (0 : Int) ≤ 1 ∧ 1 < ((a1.Keep.getD (Int.toNat v56) (⟨#[]⟩ : ByteArray)).size : Int) then some (decide (122 < (bt (a1.Keep.getD (Int.toNat v56) (⟨#[]⟩ : ByteArray)) 1))) else none)) >>= fun v120 => (if v120 = true then some (Sum.inl ()) else (formeref08_Valid_l143 a1 v56 0 >>= fun o152 => match o152 with | (Sum.inl _) => some (Sum.inl ()) | (Sum.inr _) => formeref08_Valid_l62 a1 (w64 (v56 + 1)))))))) else none) else some (Sum.inr ()))
  partial_fixpoint
def formeref08_Valid (a1 : api_Breaks) : Option (Bool) :=
  ((if a1.Before < 1 then some true else some (decide (5 < a1.Before))) >>= fun v16 => ((if v16 = true then some true else some (decide (a1.Behind < 1))) >>= fun v23 => ((if v23 = true then some true else some (decide (5 < a1.Behind))) >>= fun v30 => ((if v30 = true then some true else some (decide (20 < (a1.Keep.length : Int)))) >>= fun v37 => (if v37 = true then some false else (formeref08_Valid_l62 a1 0 >>= fun o71 => match o71 with | (Sum.inl _) => some false | (Sum.inr _) => some true))))))
def formeref21_Args (a1 : api_Font) (a10 : api_Breaks) (a15 : ByteArray) (a16 : Int) (a17 : Int) (a18 : Int) (a19 : Int) (a20 : Int) (a21 : Int) (a22 : List api_Float) : Option (Bool) :=
  (formeref07_Valid a1 >>= fun y46 => ((if (!y46) = true then some true else (formeref08_Valid a10 >>= fun y59 => some (!y59))) >>= fun v47 => ((if v47 = true then some true else (formeref06_Valid a15 >>= fun y72 => some (!y72))) >>= fun v60 => ((if v60 = true then some true else some (decide (a16 < 50))) >>= fun v73 => ((if v73 = true then some true else some (decide (300 < a16))) >>= fun v80 => ((if v80 = true then some true else (formeref20_Valid a22 a20 >>= fun y99 => some (!y99))) >>= fun v87 => (if v87 = true then some false else ((if 0 ≤ a17 then some (decide (a17 ≤ 1000000)) else some false) >>= fun v106 => ((if v106 = true then some (decide (0 ≤ a18)) else some false) >>= fun v113 => ((if v113 = true then some (decide (a18 ≤ 2)) else some false) >>= fun v120 => ((if v120 = true then some (decide (0 ≤ a19)) else some false) >>= fun v127 => ((if v127 = true then some (decide (a19 ≤ 1)) else some false) >>= fun v134 => ((if v134 = true then some (decide (0 ≤ a21)) else some false) >>= fun v141 => ((if v141 = true then some (decide (a21 ≤ 1000000000)) else some false) >>= fun v148 => some v148))))))))))))))
def formelaw21_usable (a1 : api_Font) (a10 : api_Breaks) (a15 : ByteArray) (a16 : formelaw21_Set) (a17 : List api_Float) : Option (Bool) :=
  (formeref21_Few a1 a15 a17 >>= fun y43 => ((if y43 = true then (formeref21_Args a1 a10 a15 a16.Scale a16.Line a16.Align a16.Dir a16.Width a16.Y a17 >>= fun y56 => some y56) else some false) >>= fun v44 => some v44))
def formelaw21_WrapMoves_l89 (a17 : List api_Float) (a22 : Int) (v69 : List api_Float) (v76 : Int) : Option ((List api_Float)) :=
  (if v76 < (a17.length : Int) then (if (0 : Int) ≤ v76 ∧ v76 < (a17.length : Int) then (if v69.length + 1 ≤ 3518437208883 then formelaw21_WrapMoves_l89 a17 a22 (v69 ++ [(⟨(a17.getD (Int.toNat v76) z_api_Float).Side, (a17.getD (Int.toNat v76) z_api_Float).X, w64 (((a17.getD (Int.toNat v76) z_api_Float).Y) + (w64 (a22))), (a17.getD (Int.toNat v76) z_api_Float).W, (a17.getD (Int.toNat v76) z_api_Float).H⟩ : api_Float)]) (w64 (v76 + 1)) else none) else none) else some v69)
  partial_fixpoint
def formelaw21_WrapMoves_l285 (a22 : Int) (y175 : List api_Seen) (y231 : List api_Seen) (v277 : Bool) (v278 : Int) : Option (Bool) :=
  (if v278 < (y175.length : Int) then (if (0 : Int) ≤ v278 ∧ v278 < (y175.length : Int) then ((if v277 = true then (if (0 : Int) ≤ v278 ∧ v278 < (y231.length : Int) then some (decide ((⟨(y175.getD (Int.toNat v278) z_api_Seen).Text, (y175.getD (Int.toNat v278) z_api_Seen).X, w64 (((y175.getD (Int.toNat v278) z_api_Seen).Y) + (w64 (a22))), (y175.getD (Int.toNat v278) z_api_Seen).W, (y175.getD (Int.toNat v278) z_api_Seen).H⟩ : api_Seen) = (y231.getD (Int.toNat v278) z_api_Seen))) else none) else some false) >>= fun v322 => formelaw21_WrapMoves_l285 a22 y175 y231 v322 (w64 (v278 + 1))) else none) else some v277)
  partial_fixpoint
def formelaw21_WrapMoves (a1 : api_Font) (a10 : api_Breaks) (a15 : ByteArray) (a16 : formelaw21_Set) (a17 : List api_Float) (a22 : Int) : Option (Bool) :=
  (formelaw21_head >>= fun y44 => (formelaw21_usable a1 a10 a15 a16 a17 >>= fun y54 => (if (!y54) = true then some y44 else (formelaw21_WrapMoves_l89 a17 a22 ([] : List api_Float) 0 >>= fun v90 => (formelaw21_lines a1 a10 a15 a16 a17 >>= fun (y175, y182, y183) => (formelaw21_usable a1 a10 a15 (⟨a16.Scale, a16.Line, a16.Align, a16.Dir, a16.Width, w64 (a16.Y + (w64 (a22)))⟩ : formelaw21_Set) v90 >>= fun y193 => ((if (!y193) = true then some true else some (decide (y183 = 3))) >>= fun v194 => ((if v194 = true then some true else some (decide (1000000000 < (w64 (y182 + (w64 (a22))))))) >>= fun v213 => (if v213 = true then some y44 else (formelaw21_lines a1 a10 a15 (⟨a16.Scale, a16.Line, a16.Align, a16.Dir, a16.Width, w64 (a16.Y + (w64 (a22)))⟩ : formelaw21_Set) v90 >>= fun (y231, y238, y239) => ((if ¬ y183 = y239 then some true else some (decide (¬ (y175.length : Int) = (y231.length : Int)))) >>= fun v244 => (if v244 = true then some false else (formelaw21_WrapMoves_l285 a22 y175 y231 y44 0 >>= fun v286 => ((if v286 = true then ((if ¬ y183 = 0 then some true else some (decide (y238 = (w64 (y182 + (w64 (a22))))))) >>= fun v354 => some v354) else some false) >>= fun v347 => some v347))))))))))))))
end Go.Proofs.YtaemgcpcfnbmdaaGreatDoor.LG
