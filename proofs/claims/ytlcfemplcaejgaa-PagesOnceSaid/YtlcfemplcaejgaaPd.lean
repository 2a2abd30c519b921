/-
  What the functions compute, as plain Lean functions: printed by a program out of the translation.
-/
import Derived.Test.YtlcfemplcaejgaaLgP
set_option linter.unusedVariables false
set_option linter.defProp false
set_option synthInstance.maxSize 4000
set_option synthInstance.maxHeartbeats 1000000
namespace Go.Proofs.Ytlcfemplcaejgaa.LG
open Go Go.LG
structure api_Range where
  Lo : Int
  Hi : Int
  deriving DecidableEq
def z_api_Range : api_Range := ⟨(0 : Int), (0 : Int)⟩
structure api_Zone where
  Lang : Int
  Scale : api_Range
  Width : api_Range
  deriving DecidableEq
def z_api_Zone : api_Zone := ⟨(0 : Int), z_api_Range, z_api_Range⟩
structure api_Reader where
  Width : Int
  Scale : Int
  Lang : Int
  deriving DecidableEq
def z_api_Reader : api_Reader := ⟨(0 : Int), (0 : Int), (0 : Int)⟩
structure api_Paper where
  Width : Int
  Height : Int
  Columns : Int
  Gap : Int
  Scale : Int
  Lang : Int
  deriving DecidableEq
def z_api_Paper : api_Paper := ⟨(0 : Int), (0 : Int), (0 : Int), (0 : Int), (0 : Int), (0 : Int)⟩
structure pages_sheet where
  Paper : api_Paper
  deriving DecidableEq
def z_pages_sheet : pages_sheet := ⟨z_api_Paper⟩
structure api_Slice where
  Node : Int
  Table : Int
  X : Int
  Y : Int
  H : Int
  Text : ByteArray
  Head : Bool
  Note : Bool
  deriving DecidableEq
def z_api_Slice : api_Slice := ⟨(0 : Int), (0 : Int), (0 : Int), (0 : Int), (0 : Int), (⟨#[]⟩ : ByteArray), false, false⟩
structure pages_band where
  slices : List api_Slice
  notes : List api_Slice
  end_ : Int
  deriving DecidableEq
def z_pages_band : pages_band := ⟨([] : List api_Slice), ([] : List api_Slice), (0 : Int)⟩
structure pages_open where
  sheet : pages_sheet
  placed : List api_Slice
  notes : List api_Slice
  fills : List Int
  deriving DecidableEq
def z_pages_open : pages_open := ⟨z_pages_sheet, ([] : List api_Slice), ([] : List api_Slice), ([] : List Int)⟩
structure api_Page where
  Number : Int
  Slices : List api_Slice
  deriving DecidableEq
def z_api_Page : api_Page := ⟨(0 : Int), ([] : List api_Slice)⟩
structure formeref40_Band where
  Slices : List api_Slice
  Notes : List api_Slice
  End : Int
  Kept : Bool
  deriving DecidableEq
def z_formeref40_Band : formeref40_Band := ⟨([] : List api_Slice), ([] : List api_Slice), (0 : Int), false⟩
def pages_within (a1 : Int) (a2 : Int) (a3 : Int) : Option (Bool) :=
  ((if a2 ≤ a1 then some (decide (a1 ≤ a3)) else some false) >>= fun v8 => some v8)
def zone_within (a1 : api_Range) (a2 : Int) (a3 : Int) : Option (Bool) :=
  ((if a2 ≤ a1.Lo then some (decide (a1.Lo ≤ a1.Hi)) else some false) >>= fun v12 => ((if v12 = true then some (decide (a1.Hi ≤ a3)) else some false) >>= fun v19 => some v19))
def zone_valid (a1 : api_Zone) : Option (Bool) :=
  ((if 0 ≤ a1.Lang then some (decide (a1.Lang < 4)) else some false) >>= fun v10 => ((if v10 = true then (zone_within a1.Scale 50 300 >>= fun y29 => some y29) else some false) >>= fun v17 => ((if v17 = true then (zone_within a1.Width 200 4000 >>= fun y42 => some y42) else some false) >>= fun v30 => some v30)))
def zone_Valid_1 (a1 : api_Zone) : Option (Bool) :=
  (zone_valid a1 >>= fun y15 => some (!y15))
def slices_IndexFunc_api_Zone_k1_l22 (a1 : List api_Zone) (v16 : Int) : Option (Sum Int Unit) :=
  (if v16 < (a1.length : Int) then (if (0 : Int) ≤ v16 ∧ v16 < (a1.length : Int) then (zone_Valid_1 (a1.getD (Int.toNat v16) z_api_Zone) >>= fun y60 => (if y60 = true then some (Sum.inl v16) else slices_IndexFunc_api_Zone_k1_l22 a1 (w64 (v16 + 1)))) else none) else some (Sum.inr ()))
  partial_fixpoint
def slices_IndexFunc_api_Zone_k1 (a1 : List api_Zone) : Option (Int) :=
  (slices_IndexFunc_api_Zone_k1_l22 a1 0 >>= fun o32 => match o32 with | (Sum.inl v23) => some v23 | (Sum.inr _) => some (-1))
def slices_ContainsFunc_api_Zone_k1 (a1 : List api_Zone) : Option (Bool) :=
  (slices_IndexFunc_api_Zone_k1 a1 >>= fun y15 => some (decide (0 ≤ y15)))
def zone_Valid (a1 : List api_Zone) : Option (Bool) :=
  ((if (a1.length : Int) ≤ 1000 then (slices_ContainsFunc_api_Zone_k1 a1 >>= fun y22 => some (!y22)) else some false) >>= fun v10 => some v10)
def zone_one (a1 : api_Reader) : Option (api_Zone) :=
  some (⟨a1.Lang, (⟨a1.Scale, a1.Scale⟩ : api_Range), (⟨a1.Width, a1.Width⟩ : api_Range)⟩ : api_Zone)
def zone_has (a1 : api_Range) (a2 : Int) : Option (Bool) :=
  ((if a1.Lo ≤ a2 then some (decide (a2 ≤ a1.Hi)) else some false) >>= fun v11 => some v11)
def zone_Has_1_k1 (a1 : api_Zone) (a4 : api_Reader) : Option (Bool) :=
  ((if a1.Lang = a4.Lang then (zone_has a1.Scale a4.Scale >>= fun y25 => some y25) else some false) >>= fun v13 => ((if v13 = true then (zone_has a1.Width a4.Width >>= fun y38 => some y38) else some false) >>= fun v26 => some v26))
def slices_IndexFunc_api_Zone_k2_l25 (a1 : List api_Zone) (a8 : api_Reader) (v19 : Int) : Option (Sum Int Unit) :=
  (if v19 < (a1.length : Int) then (if (0 : Int) ≤ v19 ∧ v19 < (a1.length : Int) then (zone_Has_1_k1 (a1.getD (Int.toNat v19) z_api_Zone) a8 >>= fun y63 => (if y63 = true then some (Sum.inl v19) else slices_IndexFunc_api_Zone_k2_l25 a1 a8 (w64 (v19 + 1)))) else none) else some (Sum.inr ()))
  partial_fixpoint
def slices_IndexFunc_api_Zone_k2 (a1 : List api_Zone) (a8 : api_Reader) : Option (Int) :=
  (slices_IndexFunc_api_Zone_k2_l25 a1 a8 0 >>= fun o35 => match o35 with | (Sum.inl v26) => some v26 | (Sum.inr _) => some (-1))
def slices_ContainsFunc_api_Zone_k2 (a1 : List api_Zone) (a8 : api_Reader) : Option (Bool) :=
  (slices_IndexFunc_api_Zone_k2 a1 a8 >>= fun y18 => some (decide (0 ≤ y18)))
def zone_Has (a1 : List api_Zone) (a6 : api_Reader) : Option (Bool × Int) :=
  (zone_Valid a1 >>= fun y22 => ((if (!y22) = true then some true else (zone_one a6 >>= fun y35 => (zone_valid y35 >>= fun y41 => some (!y41)))) >>= fun v23 => (if v23 = true then some (false, 1) else (slices_ContainsFunc_api_Zone_k2 a1 a6 >>= fun y53 => some (y53, 0)))))
def pages_isReader (a1 : api_Reader) : Option (Bool) :=
  (zone_Has ([] : List api_Zone) a1 >>= fun (y15, y16) => some (decide (y16 = 0)))
def pages_sheet_column (a1 : pages_sheet) : Option (Int) :=
  (if a1.Paper.Columns ≠ 0 then some (max 0 (w64 (Int.tdiv (w64 (a1.Paper.Width - (w64 (a1.Paper.Gap * (w64 (a1.Paper.Columns - 1)))))) a1.Paper.Columns))) else none)
def pages_sheet_reader (a1 : pages_sheet) : Option (api_Reader) :=
  (pages_sheet_column a1 >>= fun y27 => some (⟨y27, a1.Paper.Scale, a1.Paper.Lang⟩ : api_Reader))
def pages_sheet_valid (a1 : pages_sheet) : Option (Bool) :=
  (pages_within a1.Paper.Columns 1 8 >>= fun y15 => ((if y15 = true then (pages_within a1.Paper.Gap 0 1000 >>= fun y28 => some y28) else some false) >>= fun v16 => ((if v16 = true then (pages_within a1.Paper.Width 1 100000 >>= fun y41 => some y41) else some false) >>= fun v29 => ((if v29 = true then (pages_within a1.Paper.Height 1 1000000 >>= fun y54 => some y54) else some false) >>= fun v42 => ((if v42 = true then (pages_sheet_reader a1 >>= fun y67 => (pages_isReader y67 >>= fun y73 => some y73)) else some false) >>= fun v55 => some v55)))))
def pages_areCoords_1 (a1 : Int) : Option (Bool) :=
  (pages_within a1 (-1000000000) 1000000000 >>= fun y11 => some (!y11))
def slices_IndexFunc_int_k1_l22 (a1 : List Int) (v16 : Int) : Option (Sum Int Unit) :=
  (if v16 < (a1.length : Int) then (if (0 : Int) ≤ v16 ∧ v16 < (a1.length : Int) then (pages_areCoords_1 (a1.getD (Int.toNat v16) (0 : Int)) >>= fun y60 => (if y60 = true then some (Sum.inl v16) else slices_IndexFunc_int_k1_l22 a1 (w64 (v16 + 1)))) else none) else some (Sum.inr ()))
  partial_fixpoint
def slices_IndexFunc_int_k1 (a1 : List Int) : Option (Int) :=
  (slices_IndexFunc_int_k1_l22 a1 0 >>= fun o32 => match o32 with | (Sum.inl v23) => some v23 | (Sum.inr _) => some (-1))
def slices_ContainsFunc_int_k1 (a1 : List Int) : Option (Bool) :=
  (slices_IndexFunc_int_k1 a1 >>= fun y15 => some (decide (0 ≤ y15)))
def pages_areCoords (a1 : List Int) : Option (Bool) :=
  (slices_ContainsFunc_int_k1 a1 >>= fun y15 => some (!y15))
def text_Class (a1 : Int) : Option (Int) :=
  (if a1 = 32 then some 4 else (if a1 = 126 then some 6 else ((if a1 < 32 then some true else some (decide (126 < a1))) >>= fun v18 => (if v18 = true then some 0 else ((if 97 ≤ a1 then some (decide (a1 ≤ 122)) else some false) >>= fun v30 => (if v30 = true then some 1 else ((if 65 ≤ a1 then some (decide (a1 ≤ 90)) else some false) >>= fun v42 => (if v42 = true then some 2 else ((if 48 ≤ a1 then some (decide (a1 ≤ 57)) else some false) >>= fun v54 => (if v54 = true then some 3 else some 5))))))))))
def text_Valid_l22 (a1 : ByteArray) (v16 : Nat) : Option (Sum Nat Nat) :=
  (if v16 < a1.size then ((if 126 < ((Utf8.decode a1 v16).1 : Int) then some true else (text_Class (wu8 (((Utf8.decode a1 v16).1 : Int))) >>= fun y61 => some (decide (y61 = 0)))) >>= fun v49 => (if v49 = true then some (Sum.inl (v16 + (Utf8.decode a1 v16).2)) else text_Valid_l22 a1 (v16 + (Utf8.decode a1 v16).2))) else some (Sum.inr v16))
  partial_fixpoint
def text_Valid (a1 : ByteArray) : Option (Bool) :=
  (text_Valid_l22 a1 0 >>= fun o33 => match o33 with | (Sum.inl v23) => some false | (Sum.inr v24) => some (decide ((a1.size : Int) ≤ 2000)))
def pages_canBreak_l41 (a1 : List api_Slice) (v35 : Int) : Option (Sum Unit Unit) :=
  (if v35 < (a1.length : Int) then (if (0 : Int) ≤ v35 ∧ v35 < (a1.length : Int) then ((pages_within ((a1.getD (Int.toNat v35) z_api_Slice).Node) 1 1000000 >>= fun y108 => (if (!y108) = true then some true else (pages_within ((a1.getD (Int.toNat v35) z_api_Slice).Table) 0 1000000 >>= fun y314 => (if (!y314) = true then some true else (pages_areCoords ([(a1.getD (Int.toNat v35) z_api_Slice).X, (a1.getD (Int.toNat v35) z_api_Slice).Y] : List Int) >>= fun y528 => (if (!y528) = true then some true else (pages_within ((a1.getD (Int.toNat v35) z_api_Slice).H) 0 1000000 >>= fun y736 => (if (!y736) = true then some true else (text_Valid ((a1.getD (Int.toNat v35) z_api_Slice).Text) >>= fun y944 => (if (!y944) = true then some true else (if 0 < v35 then (if (0 : Int) ≤ w64 (v35 - 1) ∧ w64 (v35 - 1) < (a1.length : Int) then some (decide (((a1.getD (Int.toNat v35) z_api_Slice).Y) < ((a1.getD (Int.toNat (w64 (v35 - 1))) z_api_Slice).Y))) else none) else some false))))))))))) >>= fun v98 => (if v98 = true then some (Sum.inl ()) else pages_canBreak_l41 a1 (w64 (v35 + 1)))) else none) else some (Sum.inr ()))
  partial_fixpoint
def pages_canBreak (a1 : List api_Slice) (a6 : List Bool) : Option (Bool) :=
  ((if 10000 < (a1.length : Int) then some true else some (decide (¬ (a6.length : Int) = (a1.length : Int)))) >>= fun v17 => (if v17 = true then some false else (pages_canBreak_l41 a1 0 >>= fun o50 => match o50 with | (Sum.inl _) => some false | (Sum.inr _) => some true)))
def pages_sum_l26 (a1 : List api_Slice) (v18 : Int) (v19 : Int) : Option (Int) :=
  (if v19 < (a1.length : Int) then (if (0 : Int) ≤ v19 ∧ v19 < (a1.length : Int) then pages_sum_l26 a1 (w64 (v18 + ((a1.getD (Int.toNat v19) z_api_Slice).H))) (w64 (v19 + 1)) else none) else some v18)
  partial_fixpoint
def pages_sum (a1 : List api_Slice) : Option (Int) :=
  (pages_sum_l26 a1 0 0 >>= fun v27 => some v27)
def pages_bands (a1 : List api_Slice) (a6 : List Bool) : Option ((List api_Slice) × (List Bool)) :=
  some (a1, a6)
def pages_band_top (a1 : pages_band) : Option (Int) :=
  (if (0 : Int) ≤ 0 ∧ 0 < (a1.slices.length : Int) then some ((a1.slices.getD (Int.toNat 0) z_api_Slice).Y) else none)
def pages_band_height (a1 : pages_band) : Option (Int) :=
  (pages_band_top a1 >>= fun y24 => some (w64 (a1.end_ - y24)))
def pages_open_put_k2_l271 (a3 : pages_open) (a26 : List api_Slice) (a31 : Int) (a32 : Int) (y44 : Int) (v251 : Int) (v252 : List api_Slice) : Option ((List api_Slice)) :=
  (if v251 < (a26.length : Int) then (if (0 : Int) ≤ v251 ∧ v251 < (a26.length : Int) then (if v252.length + 1 ≤ 2199023255552 then pages_open_put_k2_l271 a3 a26 a31 a32 y44 (w64 (v251 + 1)) (v252 ++ [(⟨(a26.getD (Int.toNat v251) z_api_Slice).Node, (a26.getD (Int.toNat v251) z_api_Slice).Table, w64 (((a26.getD (Int.toNat v251) z_api_Slice).X) + (w64 ((w64 ((a3.fills.length : Int) - 1)) * (w64 (y44 + a3.sheet.Paper.Gap))))), w64 ((w64 (((a26.getD (Int.toNat v251) z_api_Slice).Y) - a31)) + a32), (a26.getD (Int.toNat v251) z_api_Slice).H, (a26.getD (Int.toNat v251) z_api_Slice).Text, (a26.getD (Int.toNat v251) z_api_Slice).Head, (a26.getD (Int.toNat v251) z_api_Slice).Note⟩ : api_Slice)]) else none) else none) else some v252)
  partial_fixpoint
def pages_open_put_k2 (a3 : pages_open) (a26 : List api_Slice) (a31 : Int) (a32 : Int) : Option (pages_open) :=
  (pages_sheet_column a3.sheet >>= fun y44 => (pages_open_put_k2_l271 a3 a26 a31 a32 y44 0 a3.placed >>= fun v272 => some (⟨a3.sheet, v272, a3.notes, a3.fills⟩ : pages_open)))
def pages_open_add_k3 (a3 : pages_open) (a26 : pages_band) (a35 : Int) : Option (pages_open) :=
  (pages_band_top a26 >>= fun y55 => (pages_open_put_k2 a3 a26.slices y55 a35 >>= fun y255 => (pages_band_height a26 >>= fun y473 => (if (0 : Int) ≤ w64 ((y255.fills.length : Int) - 1) ∧ w64 ((y255.fills.length : Int) - 1) < (y255.fills.length : Int) then (if y255.notes.length + a26.notes.length ≤ 2199023255552 then some (⟨y255.sheet, y255.placed, y255.notes ++ a26.notes, List.set y255.fills (Int.toNat (w64 ((y255.fills.length : Int) - 1))) (w64 (a35 + y473))⟩ : pages_open) else none) else none))))
def pages_begin_l199 (a2 : pages_band) (a11 : List pages_band) (v68 : Int) (v177 : List api_Slice) (v184 : Int) (v185 : Int) : Option (Sum ((List api_Slice) × Int) ((List api_Slice) × Int)) :=
  (if v185 < (((a11.getD (Int.toNat (w64 (v68 - 1))) z_pages_band).slices).length : Int) then ((if (0 : Int) ≤ v185 ∧ v185 < (((a11.getD (Int.toNat (w64 (v68 - 1))) z_pages_band).slices).length : Int) then ((if ((((a11.getD (Int.toNat (w64 (v68 - 1))) z_pages_band).slices).getD (Int.toNat v185) z_api_Slice).Head) = true then some (decide (v68 = 0)) else some false) >>= fun v270 => (if v270 = true then some (Sum.inl ()) else ((if ((((a11.getD (Int.toNat (w64 (v68 - 1))) z_pages_band).slices).getD (Int.toNat v185) z_api_Slice).Head) = true then some (decide (((((a11.getD (Int.toNat (w64 (v68 - 1))) z_pages_band).slices).getD (Int.toNat v185) z_api_Slice).Table) = ((a2.slices.getD (Int.toNat 0) z_api_Slice).Table))) else some false) >>= fun v298 => (if v298 = true then (if v177.length + 1 ≤ 2199023255552 then (if (0 : Int) ≤ 0 ∧ 0 < ((v177 ++ [(((a11.getD (Int.toNat (w64 (v68 - 1))) z_pages_band).slices).getD (Int.toNat v185) z_api_Slice)]).length : Int) then some (Sum.inr (v177 ++ [(((a11.getD (Int.toNat (w64 (v68 - 1))) z_pages_band).slices).getD (Int.toNat v185) z_api_Slice)], max v184 (w64 ((w64 (((((a11.getD (Int.toNat (w64 (v68 - 1))) z_pages_band).slices).getD (Int.toNat v185) z_api_Slice).Y) + ((((a11.getD (Int.toNat (w64 (v68 - 1))) z_pages_band).slices).getD (Int.toNat v185) z_api_Slice).H))) - (((v177 ++ [(((a11.getD (Int.toNat (w64 (v68 - 1))) z_pages_band).slices).getD (Int.toNat v185) z_api_Slice)]).getD (Int.toNat 0) z_api_Slice).Y))))) else none) else none) else some (Sum.inr (v177, v184)))))) else none) >>= fun o252 => match o252 with | (Sum.inl _) => some (Sum.inl (v177, v184)) | (Sum.inr (v236, v243)) => pages_begin_l199 a2 a11 v68 v236 v243 (w64 (v185 + 1))) else some (Sum.inr (v177, v184)))
  partial_fixpoint
def pages_begin_l380 (a2 : pages_band) (v68 : Int) (v358 : List api_Slice) (v365 : Int) (v366 : Int) : Option (Sum ((List api_Slice) × Int) ((List api_Slice) × Int)) :=
  (if v366 < (a2.slices.length : Int) then ((if (0 : Int) ≤ v366 ∧ v366 < (a2.slices.length : Int) then ((if ((a2.slices.getD (Int.toNat v366) z_api_Slice).Head) = true then some (decide (v68 = 0)) else some false) >>= fun v451 => (if v451 = true then some (Sum.inl ()) else ((if ((a2.slices.getD (Int.toNat v366) z_api_Slice).Head) = true then some (decide (((a2.slices.getD (Int.toNat v366) z_api_Slice).Table) = ((a2.slices.getD (Int.toNat 0) z_api_Slice).Table))) else some false) >>= fun v479 => (if v479 = true then (if v358.length + 1 ≤ 2199023255552 then (if (0 : Int) ≤ 0 ∧ 0 < ((v358 ++ [(a2.slices.getD (Int.toNat v366) z_api_Slice)]).length : Int) then some (Sum.inr (v358 ++ [(a2.slices.getD (Int.toNat v366) z_api_Slice)], max v365 (w64 ((w64 (((a2.slices.getD (Int.toNat v366) z_api_Slice).Y) + ((a2.slices.getD (Int.toNat v366) z_api_Slice).H))) - (((v358 ++ [(a2.slices.getD (Int.toNat v366) z_api_Slice)]).getD (Int.toNat 0) z_api_Slice).Y))))) else none) else none) else some (Sum.inr (v358, v365)))))) else none) >>= fun o433 => match o433 with | (Sum.inl _) => some (Sum.inl (v358, v365)) | (Sum.inr (v417, v424)) => pages_begin_l380 a2 v68 v417 v424 (w64 (v366 + 1))) else some (Sum.inr (v358, v365)))
  partial_fixpoint
def pages_begin_l82 (a2 : pages_band) (a11 : List pages_band) (v60 : List api_Slice) (v67 : Int) (v68 : Int) : Option ((List api_Slice) × Int) :=
  ((if v68 ≤ (a11.length : Int) then some (decide (¬ ((a2.slices.getD (Int.toNat 0) z_api_Slice).Table) = 0)) else some false) >>= fun v104 => (if v104 = true then ((if 0 < v68 then (if (0 : Int) ≤ w64 (v68 - 1) ∧ w64 (v68 - 1) < (a11.length : Int) then (pages_begin_l199 a2 a11 v68 v60 v67 0 >>= fun o224 => match o224 with | (Sum.inl (v200, v207)) => some (Sum.inl (v200, v207)) | (Sum.inr (v208, v215)) => some (Sum.inr (v208, v215))) else none) else (pages_begin_l380 a2 v68 v60 v67 0 >>= fun o405 => match o405 with | (Sum.inl (v381, v388)) => some (Sum.inl (v381, v388)) | (Sum.inr (v389, v396)) => some (Sum.inr (v389, v396)))) >>= fun o148 => match o148 with | (Sum.inl (v124, v131)) => some (v124, v131) | (Sum.inr (v132, v139)) => pages_begin_l82 a2 a11 v132 v139 (w64 (v68 + 1))) else some (v60, v67)))
  partial_fixpoint
def pages_begin (a1 : pages_sheet) (a2 : pages_band) (a11 : List pages_band) : Option (pages_open) :=
  (if (0 : Int) ≤ 0 ∧ 0 < (a2.slices.length : Int) then (pages_begin_l82 a2 a11 ([] : List api_Slice) 0 0 >>= fun (v83, v90) => ((if 0 < (v83.length : Int) then (pages_band_height a2 >>= fun y562 => (pages_sum a2.notes >>= fun y564 => some (decide ((w64 (v90 + y562)) ≤ (w64 (a1.Paper.Height - y564)))))) else some false) >>= fun v550 => (if v550 = true then (if (0 : Int) ≤ 0 ∧ 0 < (v83.length : Int) then (pages_open_put_k2 (⟨a1, ([] : List api_Slice), ([] : List api_Slice), ([0] : List Int)⟩ : pages_open) v83 ((v83.getD (Int.toNat 0) z_api_Slice).Y) 0 >>= fun y600 => (pages_open_add_k3 y600 a2 v90 >>= fun y630 => some y630)) else none) else (pages_open_add_k3 (⟨a1, ([] : List api_Slice), ([] : List api_Slice), ([0] : List Int)⟩ : pages_open) a2 0 >>= fun y675 => some y675)))) else none)
def pages_bands_1_k1_l75 {σ : Type} (φ : σ → pages_band → Option (σ × Bool)) (a3 : List api_Slice) (a10 : List Bool) (v31 : Bool) (v32 : Int) (v33 : List api_Slice) (v40 : List api_Slice) (v47 : Int) (v49 : σ) : Option (Sum ((List api_Slice) × (List api_Slice) × Int × σ) ((List api_Slice) × (List api_Slice) × Int × σ)) :=
  (if v32 < (a3.length : Int) then ((if (0 : Int) ≤ v32 ∧ v32 < (a3.length : Int) then (if ((a3.getD (Int.toNat v32) z_api_Slice).Note) = true then (if v40.length + 1 ≤ 2199023255552 then some (Sum.inr (v31, v33, v40 ++ [(a3.getD (Int.toNat v32) z_api_Slice)], v47, v49)) else none) else ((if 0 < (v33.length : Int) then some (decide (v47 ≤ ((a3.getD (Int.toNat v32) z_api_Slice).Y))) else some false) >>= fun v211 => ((if v211 = true then some (!v31) else some false) >>= fun v218 => (if v218 = true then (φ v49 (⟨v33, v40, v47⟩ : pages_band) >>= fun (s230, b231) => (if (!b231) = true then some (Sum.inl s230) else (if (([] : List api_Slice).length : Int) = 0 then (if ([] : List api_Slice).length + 1 ≤ 2199023255552 then (if (0 : Int) ≤ v32 ∧ v32 < (a10.length : Int) then some (Sum.inr (a10.getD (Int.toNat v32) false, ([] : List api_Slice) ++ [(a3.getD (Int.toNat v32) z_api_Slice)], ([] : List api_Slice), max ((a3.getD (Int.toNat v32) z_api_Slice).Y) (w64 (((a3.getD (Int.toNat v32) z_api_Slice).Y) + ((a3.getD (Int.toNat v32) z_api_Slice).H))), s230)) else none) else none) else (if ([] : List api_Slice).length + 1 ≤ 2199023255552 then (if (0 : Int) ≤ v32 ∧ v32 < (a10.length : Int) then some (Sum.inr (a10.getD (Int.toNat v32) false, ([] : List api_Slice) ++ [(a3.getD (Int.toNat v32) z_api_Slice)], ([] : List api_Slice), max 0 (w64 (((a3.getD (Int.toNat v32) z_api_Slice).Y) + ((a3.getD (Int.toNat v32) z_api_Slice).H))), s230)) else none) else none)))) else (if (v33.length : Int) = 0 then (if v33.length + 1 ≤ 2199023255552 then (if (0 : Int) ≤ v32 ∧ v32 < (a10.length : Int) then some (Sum.inr (a10.getD (Int.toNat v32) false, v33 ++ [(a3.getD (Int.toNat v32) z_api_Slice)], v40, max ((a3.getD (Int.toNat v32) z_api_Slice).Y) (w64 (((a3.getD (Int.toNat v32) z_api_Slice).Y) + ((a3.getD (Int.toNat v32) z_api_Slice).H))), v49)) else none) else none) else (if v33.length + 1 ≤ 2199023255552 then (if (0 : Int) ≤ v32 ∧ v32 < (a10.length : Int) then some (Sum.inr (a10.getD (Int.toNat v32) false, v33 ++ [(a3.getD (Int.toNat v32) z_api_Slice)], v40, max v47 (w64 (((a3.getD (Int.toNat v32) z_api_Slice).Y) + ((a3.getD (Int.toNat v32) z_api_Slice).H))), v49)) else none) else none)))))) else none) >>= fun o162 => match o162 with | (Sum.inl v133) => some (Sum.inl (v33, v40, v47, v133)) | (Sum.inr (v135, v136, v143, v150, v152)) => pages_bands_1_k1_l75 φ a3 a10 v135 (w64 (v32 + 1)) v136 v143 v150 v152) else some (Sum.inr (v33, v40, v47, v49)))
  partial_fixpoint
def pages_bands_1_k1_l75_pc := @pages_bands_1_k1_l75.partial_correctness
def pages_bands_1_k1 {σ : Type} (φ : σ → pages_band → Option (σ × Bool)) (sy : σ) (a3 : List api_Slice) (a10 : List Bool) : Option (σ) :=
  (pages_bands_1_k1_l75 φ a3 a10 false 0 ([] : List api_Slice) ([] : List api_Slice) 0 sy >>= fun o120 => match o120 with | (Sum.inl (v76, v83, v90, v92)) => some v92 | (Sum.inr (v94, v101, v108, v110)) => (if 0 < (w64 ((v94.length : Int) + (v101.length : Int))) then (φ v110 (⟨v94, v101, v108⟩ : pages_band) >>= fun (s478, b479) => some s478) else some v110))
def pages_open_high_k1_l46 (a3 : pages_open) (v38 : Int) (v39 : Int) : Option (Int) :=
  (if v39 < (a3.fills.length : Int) then (if (0 : Int) ≤ v39 ∧ v39 < (a3.fills.length : Int) then pages_open_high_k1_l46 a3 (max v38 (a3.fills.getD (Int.toNat v39) (0 : Int))) (w64 (v39 + 1)) else none) else some v38)
  partial_fixpoint
def pages_open_high_k1 (a3 : pages_open) : Option (Int) :=
  (pages_open_high_k1_l46 a3 0 0 >>= fun v47 => some v47)
def pages_open_take_k1 (a3 : pages_open) (a26 : pages_band) (a35 : Int) : Option (Bool × pages_open) :=
  (pages_sum a3.notes >>= fun y53 => (pages_sum a26.notes >>= fun y253 => (if (0 : Int) ≤ w64 ((a3.fills.length : Int) - 1) ∧ w64 ((a3.fills.length : Int) - 1) < (a3.fills.length : Int) then ((pages_open_high_k1 a3 >>= fun y526 => (if (w64 ((w64 (a3.sheet.Paper.Height - y53)) - y253)) < y526 then some (Sum.inr ()) else (pages_band_height a26 >>= fun y542 => (if (w64 ((w64 ((a3.fills.getD (Int.toNat (w64 ((a3.fills.length : Int) - 1))) (0 : Int)) + a35)) + y542)) ≤ (w64 ((w64 (a3.sheet.Paper.Height - y53)) - y253)) then (pages_open_add_k3 a3 a26 (w64 ((a3.fills.getD (Int.toNat (w64 ((a3.fills.length : Int) - 1))) (0 : Int)) + a35)) >>= fun y549 => some (Sum.inl (y549.sheet.Paper.Width, y549.sheet.Paper.Height, y549.sheet.Paper.Columns, y549.sheet.Paper.Gap, y549.sheet.Paper.Scale, y549.sheet.Paper.Lang, y549.placed, y549.notes, y549.fills))) else ((if (a3.fills.length : Int) < a3.sheet.Paper.Columns then (pages_band_height a26 >>= fun y595 => some (decide (y595 ≤ (w64 ((w64 (a3.sheet.Paper.Height - y53)) - y253))))) else some false) >>= fun v584 => (if v584 = true then (if a3.fills.length + 1 ≤ 17592186044416 then (pages_open_add_k3 (⟨a3.sheet, a3.placed, a3.notes, a3.fills ++ [0]⟩ : pages_open) a26 0 >>= fun y839 => some (Sum.inl (y839.sheet.Paper.Width, y839.sheet.Paper.Height, y839.sheet.Paper.Columns, y839.sheet.Paper.Gap, y839.sheet.Paper.Scale, y839.sheet.Paper.Lang, y839.placed, y839.notes, y839.fills))) else none) else some (Sum.inr ()))))))) >>= fun o513 => match o513 with | (Sum.inl (v474, v475, v476, v477, v478, v479, v480, v487, v494)) => some (true, (⟨(⟨(⟨v474, v475, v476, v477, v478, v479⟩ : api_Paper)⟩ : pages_sheet), v480, v487, v494⟩ : pages_open)) | (Sum.inr _) => some (false, a3)) else none)))
def pages_open_close_k1_l494 (a3 : pages_open) (v472 : Int) (v473 : Int) (v474 : List api_Slice) : Option ((List api_Slice)) :=
  (if v473 < (a3.notes.length : Int) then (if (0 : Int) ≤ v473 ∧ v473 < (a3.notes.length : Int) then (if v474.length + 1 ≤ 2199023255552 then pages_open_close_k1_l494 a3 (w64 (v472 + ((a3.notes.getD (Int.toNat v473) z_api_Slice).H))) (w64 (v473 + 1)) (v474 ++ [(⟨(a3.notes.getD (Int.toNat v473) z_api_Slice).Node, (a3.notes.getD (Int.toNat v473) z_api_Slice).Table, (a3.notes.getD (Int.toNat v473) z_api_Slice).X, v472, (a3.notes.getD (Int.toNat v473) z_api_Slice).H, (a3.notes.getD (Int.toNat v473) z_api_Slice).Text, (a3.notes.getD (Int.toNat v473) z_api_Slice).Head, (a3.notes.getD (Int.toNat v473) z_api_Slice).Note⟩ : api_Slice)]) else none) else none) else some v474)
  partial_fixpoint
def pages_open_close_k1 (a3 : pages_open) (a26 : Int) : Option (api_Page) :=
  (pages_sum a3.notes >>= fun y44 => (pages_open_high_k1 a3 >>= fun y244 => (pages_open_close_k1_l494 a3 (max (w64 (a3.sheet.Paper.Height - y44)) y244) 0 a3.placed >>= fun v495 => some (⟨a26, v495⟩ : api_Page))))
def pages_Break_1_k2 (a3 : Option pages_open) (a32 : List api_Page) : Option ((List api_Page)) :=
  (match a3 with | none => some a32 | some x4 => (pages_open_close_k1 x4 (w64 ((a32.length : Int) + 1)) >>= fun y57 => (if a32.length + 1 ≤ 4398046511104 then some (a32 ++ [y57]) else none)))
def pages_open_high_k2_l44 (a3 : pages_open) (v36 : Int) (v37 : Int) : Option (Int) :=
  (if v37 < (a3.fills.length : Int) then (if (0 : Int) ≤ v37 ∧ v37 < (a3.fills.length : Int) then pages_open_high_k2_l44 a3 (max v36 (a3.fills.getD (Int.toNat v37) (0 : Int))) (w64 (v37 + 1)) else none) else some v36)
  partial_fixpoint
def pages_open_high_k2 (a3 : pages_open) : Option (Int) :=
  (pages_open_high_k2_l44 a3 0 0 >>= fun v45 => some v45)
def pages_open_close_k2_l490 (a3 : pages_open) (v468 : Int) (v469 : Int) (v470 : List api_Slice) : Option ((List api_Slice)) :=
  (if v469 < (a3.notes.length : Int) then (if (0 : Int) ≤ v469 ∧ v469 < (a3.notes.length : Int) then (if v470.length + 1 ≤ 2199023255552 then pages_open_close_k2_l490 a3 (w64 (v468 + ((a3.notes.getD (Int.toNat v469) z_api_Slice).H))) (w64 (v469 + 1)) (v470 ++ [(⟨(a3.notes.getD (Int.toNat v469) z_api_Slice).Node, (a3.notes.getD (Int.toNat v469) z_api_Slice).Table, (a3.notes.getD (Int.toNat v469) z_api_Slice).X, v468, (a3.notes.getD (Int.toNat v469) z_api_Slice).H, (a3.notes.getD (Int.toNat v469) z_api_Slice).Text, (a3.notes.getD (Int.toNat v469) z_api_Slice).Head, (a3.notes.getD (Int.toNat v469) z_api_Slice).Note⟩ : api_Slice)]) else none) else none) else some v470)
  partial_fixpoint
def pages_open_close_k2 (a3 : pages_open) (a24 : Int) : Option (api_Page) :=
  (pages_sum a3.notes >>= fun y42 => (pages_open_high_k2 a3 >>= fun y242 => (pages_open_close_k2_l490 a3 (max (w64 (a3.sheet.Paper.Height - y42)) y242) 0 a3.placed >>= fun v491 => some (⟨a24, v491⟩ : api_Page))))
def pages_Break_1_k3 (a3 : Option pages_open) (a30 : List api_Page) : Option ((List api_Page)) :=
  (match a3 with | none => some a30 | some x4 => (pages_open_close_k2 x4 (w64 ((a30.length : Int) + 1)) >>= fun y54 => (if a30.length + 1 ≤ 4398046511104 then some (a30 ++ [y54]) else none)))
def pages_Break_r279 (a1 : api_Paper) (v140 : Option pages_open) (v160 : Bool) (v168 : List pages_band) (v175 : List api_Page) (x287 : pages_band) : Option (((Option pages_open) × Bool × (List pages_band) × (List api_Page)) × Option Nat) :=
  (if (x287.slices.length : Int) = 0 then some (((some (⟨(⟨a1⟩ : pages_sheet), ([] : List api_Slice), x287.notes, ([0] : List Int)⟩ : pages_open)), false, v168, v175), (some 0)) else ((match v140 with | none => some (true, (none : Option pages_open)) | some x141 => (if v160 = true then (pages_band_top x287 >>= fun y426 => (if (0 : Int) ≤ w64 ((v168.length : Int) - 1) ∧ w64 ((v168.length : Int) - 1) < (v168.length : Int) then (pages_open_take_k1 x141 x287 (max 0 (w64 (y426 - ((v168.getD (Int.toNat (w64 ((v168.length : Int) - 1))) z_pages_band).end_)))) >>= fun (y641, y642) => some (!y641, (some y642))) else none)) else none)) >>= fun (v360, v361) => (if v360 = true then (pages_Break_1_k2 v361 v175 >>= fun y894 => (pages_begin (⟨a1⟩ : pages_sheet) x287 v168 >>= fun y908 => (if v168.length + 1 ≤ 2513169434916 then some (((some y908), true, v168 ++ [x287], y894), none) else none))) else (if v168.length + 1 ≤ 2513169434916 then some ((v361, true, v168 ++ [x287], v175), none) else none))))
def pages_Break (a1 : api_Paper) (a2 : List api_Slice) (a7 : List Bool) : Option ((List api_Page) × Int) :=
  (pages_sheet_valid (⟨a1⟩ : pages_sheet) >>= fun y27 => ((if (!y27) = true then some true else (pages_canBreak a2 a7 >>= fun y40 => some (!y40))) >>= fun v28 => (if v28 = true then some (([] : List api_Page), 1) else (pages_bands a2 a7 >>= fun (y86, y93) => (pages_bands_1_k1 (rnd (fun (u : (Option pages_open) × Bool × (List pages_band) × (List api_Page)) (x : pages_band) => pages_Break_r279 a1 u.1 u.2.1 u.2.2.1 u.2.2.2 x)) (((none : Option pages_open), true, ([] : List pages_band), ([] : List api_Page)), none) y86 y93 >>= fun ((v140, v160, v168, v175), jo281) => match jo281 with | none => (pages_Break_1_k3 v140 v175 >>= fun y1031 => (if 500 < (y1031.length : Int) then some (([] : List api_Page), 2) else some (y1031, 0))) | some 0 => (pages_Break_1_k3 v140 v175 >>= fun y1077 => (if 500 < (y1077.length : Int) then some (([] : List api_Page), 2) else some (y1077, 0))) | some _ => none)))))
def formelaw40_paper (a1 : Int) : Option (api_Paper) :=
  some (⟨w64 (300 * a1), 30, a1, 0, 100, 0⟩ : api_Paper)
def formelaw40_rows : Option ((List api_Slice)) :=
  some ([(⟨1, 0, 0, 0, 10, (⟨#[]⟩ : ByteArray), false, false⟩ : api_Slice), (⟨2, 0, 0, 12, 10, (⟨#[]⟩ : ByteArray), false, false⟩ : api_Slice), (⟨3, 0, 0, 24, 10, (⟨#[]⟩ : ByteArray), false, false⟩ : api_Slice), (⟨4, 0, 0, 36, 10, (⟨#[]⟩ : ByteArray), false, false⟩ : api_Slice)] : List api_Slice)
def pages_Find_1_k1 (a1 : api_Slice) (a4 : Int) : Option (Bool) :=
  some (decide (a1.Node = a4))
def slices_IndexFunc_api_Slice_k1_l25 (a1 : List api_Slice) (a8 : Int) (v19 : Int) : Option (Sum Int Unit) :=
  (if v19 < (a1.length : Int) then (if (0 : Int) ≤ v19 ∧ v19 < (a1.length : Int) then (pages_Find_1_k1 (a1.getD (Int.toNat v19) z_api_Slice) a8 >>= fun y63 => (if y63 = true then some (Sum.inl v19) else slices_IndexFunc_api_Slice_k1_l25 a1 a8 (w64 (v19 + 1)))) else none) else some (Sum.inr ()))
  partial_fixpoint
def slices_IndexFunc_api_Slice_k1 (a1 : List api_Slice) (a8 : Int) : Option (Int) :=
  (slices_IndexFunc_api_Slice_k1_l25 a1 a8 0 >>= fun o35 => match o35 with | (Sum.inl v26) => some v26 | (Sum.inr _) => some (-1))
def slices_ContainsFunc_api_Slice_k1 (a1 : List api_Slice) (a8 : Int) : Option (Bool) :=
  (slices_IndexFunc_api_Slice_k1 a1 a8 >>= fun y18 => some (decide (0 ≤ y18)))
def pages_Find_l27 (a1 : List api_Page) (a6 : Int) (v21 : Int) : Option (Sum Int Unit) :=
  (if v21 < (a1.length : Int) then (if (0 : Int) ≤ v21 ∧ v21 < (a1.length : Int) then (slices_ContainsFunc_api_Slice_k1 ((a1.getD (Int.toNat v21) z_api_Page).Slices) a6 >>= fun y76 => (if y76 = true then some (Sum.inl ((a1.getD (Int.toNat v21) z_api_Page).Number)) else pages_Find_l27 a1 a6 (w64 (v21 + 1)))) else none) else some (Sum.inr ()))
  partial_fixpoint
def pages_Find (a1 : List api_Page) (a6 : Int) : Option (Int × Bool) :=
  (pages_Find_l27 a1 a6 0 >>= fun o37 => match o37 with | (Sum.inl v28) => some (v28, true) | (Sum.inr _) => some (0, false))
def formeref40_SameSlices_l34 (a1 : List api_Slice) (a6 : List api_Slice) (v28 : Int) : Option (Sum Unit Unit) :=
  (if v28 < (a1.length : Int) then (if (0 : Int) ≤ v28 ∧ v28 < (a1.length : Int) then (if (0 : Int) ≤ v28 ∧ v28 < (a6.length : Int) then (if ¬ (a1.getD (Int.toNat v28) z_api_Slice) = (a6.getD (Int.toNat v28) z_api_Slice) then some (Sum.inl ()) else formeref40_SameSlices_l34 a1 a6 (w64 (v28 + 1))) else none) else none) else some (Sum.inr ()))
  partial_fixpoint
def formeref40_SameSlices (a1 : List api_Slice) (a6 : List api_Slice) : Option (Bool) :=
  (if ¬ (a1.length : Int) = (a6.length : Int) then some false else (formeref40_SameSlices_l34 a1 a6 0 >>= fun o43 => match o43 with | (Sum.inl _) => some false | (Sum.inr _) => some true))
def formeref40_Same_l34 (a1 : List api_Page) (a6 : List api_Page) (v28 : Int) : Option (Sum Unit Unit) :=
  (if v28 < (a1.length : Int) then ((if (0 : Int) ≤ v28 ∧ v28 < (a1.length : Int) then (if (0 : Int) ≤ v28 ∧ v28 < (a6.length : Int) then (if ¬ ((a1.getD (Int.toNat v28) z_api_Page).Number) = ((a6.getD (Int.toNat v28) z_api_Page).Number) then some true else (if (0 : Int) ≤ v28 ∧ v28 < (a1.length : Int) then (if (0 : Int) ≤ v28 ∧ v28 < (a6.length : Int) then (formeref40_SameSlices ((a1.getD (Int.toNat v28) z_api_Page).Slices) ((a6.getD (Int.toNat v28) z_api_Page).Slices) >>= fun y159 => some (!y159)) else none) else none)) else none) else none) >>= fun v103 => (if v103 = true then some (Sum.inl ()) else formeref40_Same_l34 a1 a6 (w64 (v28 + 1)))) else some (Sum.inr ()))
  partial_fixpoint
def formeref40_Same (a1 : List api_Page) (a6 : List api_Page) : Option (Bool) :=
  (if ¬ (a1.length : Int) = (a6.length : Int) then some false else (formeref40_Same_l34 a1 a6 0 >>= fun o43 => match o43 with | (Sum.inl _) => some false | (Sum.inr _) => some true))
def formelaw40_at (a1 : Int) (a2 : Int) (a3 : Int) : Option (api_Slice) :=
  some (⟨a1, 0, a2, a3, 10, (⟨#[]⟩ : ByteArray), false, false⟩ : api_Slice)
def formelaw40_head : Option (Bool) :=
  (formelaw40_paper 1 >>= fun y16 => (formelaw40_rows >>= fun y216 => (if (0 : Int) ≤ 4 ∧ (1 : Int) * 4 ≤ 281474976710656 ∧ (4 : Int) ≤ 9223372036854775807 then (pages_Break y16 y216 (List.replicate (Int.toNat 4) false) >>= fun (y427, y434) => (formelaw40_paper 1 >>= fun y636 => (formelaw40_rows >>= fun y642 => (pages_Break y636 y642 ([false, true, false, false] : List Bool) >>= fun (y662, y669) => (formelaw40_paper 2 >>= fun y683 => (formelaw40_rows >>= fun y883 => (if (0 : Int) ≤ 4 ∧ (1 : Int) * 4 ≤ 281474976710656 ∧ (4 : Int) ≤ 9223372036854775807 then (pages_Break y683 y883 (List.replicate (Int.toNat 4) false) >>= fun (y1094, y1101) => (formelaw40_paper 1 >>= fun y1310 => (formelaw40_rows >>= fun y1316 => (pages_Break y1310 y1316 ([] : List Bool) >>= fun (y1328, y1335) => (pages_Find y662 4 >>= fun (y1343, y1344) => (pages_Find y662 5 >>= fun (y1352, y1353) => ((if y434 = 0 then some (decide (y669 = 0)) else some false) >>= fun v1356 => ((if v1356 = true then some (decide (y1101 = 0)) else some false) >>= fun v1363 => ((if v1363 = true then some (decide (y1335 = 1)) else some false) >>= fun v1370 => ((if v1370 = true then some (decide (y1343 = 3)) else some false) >>= fun v1377 => ((if v1377 = true then some y1344 else some false) >>= fun v1384 => ((if v1384 = true then some (!y1353) else some false) >>= fun v1391 => ((if v1391 = true then (formelaw40_at 1 0 0 >>= fun y1412 => (formelaw40_at 2 0 12 >>= fun y1418 => (formelaw40_at 3 0 0 >>= fun y1432 => (formelaw40_at 4 0 12 >>= fun y1438 => (formeref40_Same y427 ([(⟨1, ([y1412, y1418] : List api_Slice)⟩ : api_Page), (⟨2, ([y1432, y1438] : List api_Slice)⟩ : api_Page)] : List api_Page) >>= fun y1460 => some y1460))))) else some false) >>= fun v1400 => ((if v1400 = true then (formelaw40_at 1 0 0 >>= fun y1487 => (formelaw40_at 2 0 0 >>= fun y1501 => (formelaw40_at 3 0 12 >>= fun y1507 => (formelaw40_at 4 0 0 >>= fun y1521 => (formeref40_Same y662 ([(⟨1, ([y1487] : List api_Slice)⟩ : api_Page), (⟨2, ([y1501, y1507] : List api_Slice)⟩ : api_Page), (⟨3, ([y1521] : List api_Slice)⟩ : api_Page)] : List api_Page) >>= fun y1543 => some y1543))))) else some false) >>= fun v1475 => ((if v1475 = true then (formelaw40_at 1 0 0 >>= fun y1570 => (formelaw40_at 2 0 12 >>= fun y1576 => (formelaw40_at 3 300 0 >>= fun y1582 => (formelaw40_at 4 300 12 >>= fun y1588 => (formeref40_Same y1094 ([(⟨1, ([y1570, y1576, y1582, y1588] : List api_Slice)⟩ : api_Page)] : List api_Page) >>= fun y1610 => some y1610))))) else some false) >>= fun v1558 => some v1558))))))))))))))) else none))))))) else none)))
def formeref40_Few_l22 (a1 : List api_Slice) (v16 : Int) : Option (Sum Unit Unit) :=
  (if v16 < (a1.length : Int) then (if (0 : Int) ≤ v16 ∧ v16 < (a1.length : Int) then (if 200 < (((a1.getD (Int.toNat v16) z_api_Slice).Text).size : Int) then some (Sum.inl ()) else formeref40_Few_l22 a1 (w64 (v16 + 1))) else none) else some (Sum.inr ()))
  partial_fixpoint
def formeref40_Few (a1 : List api_Slice) : Option (Bool) :=
  (formeref40_Few_l22 a1 0 >>= fun o31 => match o31 with | (Sum.inl _) => some false | (Sum.inr _) => some (decide ((a1.length : Int) ≤ 60)))
def formeref40_in (a1 : Int) (a2 : Int) (a3 : Int) : Option (Bool) :=
  ((if a2 ≤ a1 then some (decide (a1 ≤ a3)) else some false) >>= fun v8 => some v8)
def formeref03_Reader (a1 : api_Reader) : Option (Bool) :=
  ((if 0 ≤ a1.Lang then some (decide (a1.Lang < 4)) else some false) >>= fun v10 => ((if v10 = true then some (decide (50 ≤ a1.Scale)) else some false) >>= fun v17 => ((if v17 = true then some (decide (a1.Scale ≤ 300)) else some false) >>= fun v24 => ((if v24 = true then some (decide (200 ≤ a1.Width)) else some false) >>= fun v31 => ((if v31 = true then some (decide (a1.Width ≤ 4000)) else some false) >>= fun v38 => some v38)))))
def formeref40_Column (a1 : api_Paper) : Option (Int) :=
  (if a1.Columns ≠ 0 then some (max 0 (w64 (Int.tdiv (w64 (a1.Width - (w64 (a1.Gap * (w64 (a1.Columns - 1)))))) a1.Columns))) else none)
def formeref40_Reader (a1 : api_Paper) : Option (api_Reader) :=
  (formeref40_Column a1 >>= fun y27 => some (⟨y27, a1.Scale, a1.Lang⟩ : api_Reader))
def formeref40_Paper (a1 : api_Paper) : Option (Bool) :=
  (formeref40_in a1.Columns 1 8 >>= fun y17 => ((if (!y17) = true then some true else (formeref40_in a1.Gap 0 1000 >>= fun y30 => some (!y30))) >>= fun v18 => ((if v18 = true then some true else (formeref40_in a1.Width 1 100000 >>= fun y43 => some (!y43))) >>= fun v31 => ((if v31 = true then some true else (formeref40_in a1.Height 1 1000000 >>= fun y56 => some (!y56))) >>= fun v44 => (if v44 = true then some false else (formeref40_Reader a1 >>= fun y68 => (formeref03_Reader y68 >>= fun y74 => some y74)))))))
def formeref06_Class (a1 : Int) : Option (Int) :=
  ((if 97 ≤ a1 then some (decide (a1 ≤ 122)) else some false) >>= fun v8 => (if v8 = true then some 1 else ((if 65 ≤ a1 then some (decide (a1 ≤ 90)) else some false) >>= fun v22 => (if v22 = true then some 2 else ((if 48 ≤ a1 then some (decide (a1 ≤ 57)) else some false) >>= fun v36 => (if v36 = true then some 3 else (if a1 = 32 then some 4 else (if a1 = 126 then some 6 else ((if 32 < a1 then some (decide (a1 < 126)) else some false) >>= fun v64 => (if v64 = true then some 5 else some 0))))))))))
def formeref06_Valid_l18 (a1 : ByteArray) (v12 : Int) : Option (Sum Unit Unit) :=
  (if v12 < (a1.size : Int) then (if (0 : Int) ≤ v12 ∧ v12 < (a1.size : Int) then (formeref06_Class (bt a1 v12) >>= fun y47 => (if y47 = 0 then some (Sum.inl ()) else formeref06_Valid_l18 a1 (w64 (v12 + 1)))) else none) else some (Sum.inr ()))
  partial_fixpoint
def formeref06_Valid (a1 : ByteArray) : Option (Bool) :=
  (formeref06_Valid_l18 a1 0 >>= fun o27 => match o27 with | (Sum.inl _) => some false | (Sum.inr _) => some (decide ((a1.size : Int) ≤ 2000)))
def formeref40_coord (a1 : Int) : Option (Bool) :=
  (formeref40_in a1 (-1000000000) 1000000000 >>= fun y11 => some y11)
def formeref40_Right_l27 (a1 : List api_Slice) (v21 : Int) : Option (Sum Unit Unit) :=
  (if v21 < (a1.length : Int) then (if (0 : Int) ≤ v21 ∧ v21 < (a1.length : Int) then (formeref06_Valid ((a1.getD (Int.toNat v21) z_api_Slice).Text) >>= fun y70 => ((if (!y70) = true then some true else (formeref40_in ((a1.getD (Int.toNat v21) z_api_Slice).Node) 1 1000000 >>= fun y87 => (if (!y87) = true then some true else (formeref40_in ((a1.getD (Int.toNat v21) z_api_Slice).Table) 0 1000000 >>= fun y90 => (if (!y90) = true then some true else (formeref40_coord ((a1.getD (Int.toNat v21) z_api_Slice).X) >>= fun y93 => (if (!y93) = true then some true else (formeref40_coord ((a1.getD (Int.toNat v21) z_api_Slice).Y) >>= fun y96 => (if (!y96) = true then some true else (formeref40_in ((a1.getD (Int.toNat v21) z_api_Slice).H) 0 1000000 >>= fun y99 => (if (!y99) = true then some true else (if 0 < v21 then (if (0 : Int) ≤ w64 (v21 - 1) ∧ w64 (v21 - 1) < (a1.length : Int) then some (decide (((a1.getD (Int.toNat v21) z_api_Slice).Y) < ((a1.getD (Int.toNat (w64 (v21 - 1))) z_api_Slice).Y))) else none) else some false)))))))))))) >>= fun v75 => (if v75 = true then some (Sum.inl ()) else formeref40_Right_l27 a1 (w64 (v21 + 1))))) else none) else some (Sum.inr ()))
  partial_fixpoint
def formeref40_Right (a1 : List api_Slice) (a6 : List Bool) : Option (Bool) :=
  (formeref40_Right_l27 a1 0 >>= fun o36 => match o36 with | (Sum.inl _) => some false | (Sum.inr _) => ((if (a1.length : Int) ≤ 10000 then some (decide ((a6.length : Int) = (a1.length : Int))) else some false) >>= fun v116 => some v116))
def formelaw40_usable (a1 : api_Paper) (a2 : List api_Slice) (a7 : List Bool) : Option (Bool) :=
  (formeref40_Few a2 >>= fun y25 => ((if y25 = true then (formeref40_Paper a1 >>= fun y38 => some y38) else some false) >>= fun v26 => ((if v26 = true then (formeref40_Right a2 a7 >>= fun y51 => some y51) else some false) >>= fun v39 => some v39)))
def formelaw40_plain (a1 : api_Slice) : Option (api_Slice) :=
  some (⟨a1.Node, a1.Table, 0, 0, a1.H, a1.Text, a1.Head, a1.Note⟩ : api_Slice)
def formelaw40_PagesOnce_l265 (y47 : List api_Page) (v100 : Int) (v211 : List api_Slice) (v218 : List api_Slice) (v225 : List api_Slice) (v232 : Bool) (v233 : Int) (v234 : Int) (v235 : List (api_Slice × Int)) : Option (Sum (List (api_Slice × Int)) ((List api_Slice) × (List api_Slice) × (List api_Slice) × (List (api_Slice × Int)))) :=
  (if v234 < (((y47.getD (Int.toNat v100) z_api_Page).Slices).length : Int) then ((if (0 : Int) ≤ v234 ∧ v234 < (((y47.getD (Int.toNat v100) z_api_Page).Slices).length : Int) then ((if v232 = true then some (!((((y47.getD (Int.toNat v100) z_api_Page).Slices).getD (Int.toNat v234) z_api_Slice).Note)) else some false) >>= fun v361 => ((if v361 = true then some true else ((if ((((y47.getD (Int.toNat v100) z_api_Page).Slices).getD (Int.toNat v234) z_api_Slice).Note) = true then some (decide (((((y47.getD (Int.toNat v100) z_api_Page).Slices).getD (Int.toNat v234) z_api_Slice).Y) < v233)) else some false) >>= fun v375 => some v375)) >>= fun v368 => (if v368 = true then some (Sum.inl ()) else ((if v232 = true then some true else some ((((y47.getD (Int.toNat v100) z_api_Page).Slices).getD (Int.toNat v234) z_api_Slice).Note)) >>= fun v395 => (if (!((((y47.getD (Int.toNat v100) z_api_Page).Slices).getD (Int.toNat v234) z_api_Slice).Note)) = true then (if ((((y47.getD (Int.toNat v100) z_api_Page).Slices).getD (Int.toNat v234) z_api_Slice).Note) = true then (formelaw40_plain (((y47.getD (Int.toNat v100) z_api_Page).Slices).getD (Int.toNat v234) z_api_Slice) >>= fun y415 => (if v218.length + 1 ≤ 2199023255552 then some (Sum.inr (v211, v218 ++ [y415], v225, v395, max v233 (w64 (((((y47.getD (Int.toNat v100) z_api_Page).Slices).getD (Int.toNat v234) z_api_Slice).Y) + ((((y47.getD (Int.toNat v100) z_api_Page).Slices).getD (Int.toNat v234) z_api_Slice).H))), v235)) else none)) else (if ((((y47.getD (Int.toNat v100) z_api_Page).Slices).getD (Int.toNat v234) z_api_Slice).Head) = true then (if v225.length + 1 ≤ 2199023255552 then (formelaw40_plain (((y47.getD (Int.toNat v100) z_api_Page).Slices).getD (Int.toNat v234) z_api_Slice) >>= fun y471 => some (Sum.inr (v211, v218, v225 ++ [(((y47.getD (Int.toNat v100) z_api_Page).Slices).getD (Int.toNat v234) z_api_Slice)], v395, max v233 (w64 (((((y47.getD (Int.toNat v100) z_api_Page).Slices).getD (Int.toNat v234) z_api_Slice).Y) + ((((y47.getD (Int.toNat v100) z_api_Page).Slices).getD (Int.toNat v234) z_api_Slice).H))), mput v235 y471 (w64 (((mget v235 y471).getD (0 : Int)) + 1))))) else none) else (formelaw40_plain (((y47.getD (Int.toNat v100) z_api_Page).Slices).getD (Int.toNat v234) z_api_Slice) >>= fun y690 => (if v211.length + 1 ≤ 2199023255552 then some (Sum.inr (v211 ++ [y690], v218, v225, v395, max v233 (w64 (((((y47.getD (Int.toNat v100) z_api_Page).Slices).getD (Int.toNat v234) z_api_Slice).Y) + ((((y47.getD (Int.toNat v100) z_api_Page).Slices).getD (Int.toNat v234) z_api_Slice).H))), v235)) else none)))) else (if ((((y47.getD (Int.toNat v100) z_api_Page).Slices).getD (Int.toNat v234) z_api_Slice).Note) = true then (formelaw40_plain (((y47.getD (Int.toNat v100) z_api_Page).Slices).getD (Int.toNat v234) z_api_Slice) >>= fun y721 => (if v218.length + 1 ≤ 2199023255552 then some (Sum.inr (v211, v218 ++ [y721], v225, v395, v233, v235)) else none)) else (if ((((y47.getD (Int.toNat v100) z_api_Page).Slices).getD (Int.toNat v234) z_api_Slice).Head) = true then (if v225.length + 1 ≤ 2199023255552 then (formelaw40_plain (((y47.getD (Int.toNat v100) z_api_Page).Slices).getD (Int.toNat v234) z_api_Slice) >>= fun y777 => some (Sum.inr (v211, v218, v225 ++ [(((y47.getD (Int.toNat v100) z_api_Page).Slices).getD (Int.toNat v234) z_api_Slice)], v395, v233, mput v235 y777 (w64 (((mget v235 y777).getD (0 : Int)) + 1))))) else none) else (formelaw40_plain (((y47.getD (Int.toNat v100) z_api_Page).Slices).getD (Int.toNat v234) z_api_Slice) >>= fun y996 => (if v211.length + 1 ≤ 2199023255552 then some (Sum.inr (v211 ++ [y996], v218, v225, v395, v233, v235)) else none))))))))) else none) >>= fun o341 => match o341 with | (Sum.inl _) => some (Sum.inl v235) | (Sum.inr (v309, v316, v323, v330, v331, v332)) => formelaw40_PagesOnce_l265 y47 v100 v309 v316 v323 v330 v331 (w64 (v234 + 1)) v332) else some (Sum.inr (v211, v218, v225, v235)))
  partial_fixpoint
def formelaw40_PagesOnce_l265_pc := @formelaw40_PagesOnce_l265.partial_correctness
def formelaw40_PagesOnce_l129 (y47 : List api_Page) (v79 : List api_Slice) (v86 : List api_Slice) (v93 : List api_Slice) (v100 : Int) (v101 : List (api_Slice × Int)) : Option (Sum (List (api_Slice × Int)) ((List api_Slice) × (List api_Slice) × (List (api_Slice × Int)))) :=
  (if v100 < (y47.length : Int) then (if (0 : Int) ≤ v100 ∧ v100 < (y47.length : Int) then ((if ¬ ((y47.getD (Int.toNat v100) z_api_Page).Number) = (w64 (v100 + 1)) then some true else some (decide ((((y47.getD (Int.toNat v100) z_api_Page).Slices).length : Int) = 0))) >>= fun v189 => (if v189 = true then some (Sum.inl v101) else (formelaw40_PagesOnce_l265 y47 v100 v79 v86 v93 false 0 0 v101 >>= fun o297 => match o297 with | (Sum.inl v266) => some (Sum.inl v266) | (Sum.inr (v267, v274, v281, v288)) => formelaw40_PagesOnce_l129 y47 v267 v274 v281 (w64 (v100 + 1)) v288))) else none) else some (Sum.inr (v79, v86, v101)))
  partial_fixpoint
def formelaw40_PagesOnce_l1080 (a2 : List api_Slice) (v145 : List (api_Slice × Int)) (v1052 : Bool) (v1053 : List api_Slice) (v1058 : List api_Slice) (v1063 : Int) : Option (Sum Unit (Bool × (List api_Slice) × (List api_Slice))) :=
  (if v1063 < (a2.length : Int) then ((if (0 : Int) ≤ v1063 ∧ v1063 < (a2.length : Int) then (if ((a2.getD (Int.toNat v1063) z_api_Slice).Note) = true then ((if (v1058.length : Int) = 0 then some true else (if (0 : Int) ≤ 0 ∧ 0 < (v1058.length : Int) then (formelaw40_plain (a2.getD (Int.toNat v1063) z_api_Slice) >>= fun y1182 => some (decide (¬ (v1058.getD (Int.toNat 0) z_api_Slice) = y1182))) else none)) >>= fun v1163 => (if v1163 = true then some (Sum.inl ()) else (if (0 : Int) ≤ 1 ∧ (1 : Int) ≤ (v1058.length : Int) then some (Sum.inr (v1052, v1053, cutl v1058 1 (v1058.length : Int))) else none))) else (if ((a2.getD (Int.toNat v1063) z_api_Slice).Head) = true then ((if v1052 = true then (formelaw40_plain (a2.getD (Int.toNat v1063) z_api_Slice) >>= fun y1221 => some (decide (0 < ((mget v145 y1221).getD (0 : Int))))) else some false) >>= fun v1209 => some (Sum.inr (v1209, v1053, v1058))) else ((if (v1053.length : Int) = 0 then some true else (if (0 : Int) ≤ 0 ∧ 0 < (v1053.length : Int) then (formelaw40_plain (a2.getD (Int.toNat v1063) z_api_Slice) >>= fun y1260 => some (decide (¬ (v1053.getD (Int.toNat 0) z_api_Slice) = y1260))) else none)) >>= fun v1241 => (if v1241 = true then some (Sum.inl ()) else (if (0 : Int) ≤ 1 ∧ (1 : Int) ≤ (v1053.length : Int) then some (Sum.inr (v1052, cutl v1053 1 (v1053.length : Int), v1058)) else none))))) else none) >>= fun o1131 => match o1131 with | (Sum.inl _) => some (Sum.inl ()) | (Sum.inr (v1112, v1113, v1118)) => formelaw40_PagesOnce_l1080 a2 v145 v1112 v1113 v1118 (w64 (v1063 + 1))) else some (Sum.inr (v1052, v1053, v1058)))
  partial_fixpoint
def formelaw40_PagesOnce (a1 : api_Paper) (a2 : List api_Slice) (a7 : List Bool) : Option (Bool) :=
  (formelaw40_head >>= fun y25 => (formelaw40_usable a1 a2 a7 >>= fun y35 => (if (!y35) = true then some y25 else (pages_Break a1 a2 a7 >>= fun (y47, y54) => (if ¬ y54 = 0 then some false else (formelaw40_PagesOnce_l129 y47 ([] : List api_Slice) ([] : List api_Slice) ([] : List api_Slice) 0 ([] : List (api_Slice × Int)) >>= fun o154 => match o154 with | (Sum.inl v130) => some false | (Sum.inr (v131, v138, v145)) => (formelaw40_PagesOnce_l1080 a2 v145 y25 v131 v138 0 >>= fun o1100 => match o1100 with | (Sum.inl _) => some false | (Sum.inr (v1081, v1082, v1087)) => ((if v1081 = true then some (decide ((v1082.length : Int) = 0)) else some false) >>= fun v1287 => ((if v1287 = true then some (decide ((v1087.length : Int) = 0)) else some false) >>= fun v1294 => some v1294)))))))))
end Go.Proofs.Ytlcfemplcaejgaa.LG
