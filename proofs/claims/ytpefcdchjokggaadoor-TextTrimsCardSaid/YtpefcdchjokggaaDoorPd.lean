/-
  What the functions compute, as plain Lean functions: printed by a program out of the translation.
-/
import Derived.Test.YtpefcdchjokggaaDoorLgP
import Derived.Lib.Bytealg
import Derived.Lib.Index
import Derived.Lib.MapU
import Derived.Lib.Strings
import Derived.Lib.TrimByte
set_option linter.unusedVariables false
namespace Go.Proofs.YtpefcdchjokggaaDoor.LG
open Go Go.LG
def text_Class (a1 : Int) : Option (Int) :=
  (if a1 = 32 then some 4 else (if a1 = 126 then some 6 else ((if a1 < 32 then some true else some (decide (126 < a1))) >>= fun v18 => (if v18 = true then some 0 else ((if 97 ≤ a1 then some (decide (a1 ≤ 122)) else some false) >>= fun v30 => (if v30 = true then some 1 else ((if 65 ≤ a1 then some (decide (a1 ≤ 90)) else some false) >>= fun v42 => (if v42 = true then some 2 else ((if 48 ≤ a1 then some (decide (a1 ≤ 57)) else some false) >>= fun v54 => (if v54 = true then some 3 else some 5))))))))))
def text_Valid_l22 (a1 : ByteArray) (v16 : Nat) : Option (Sum Nat Nat) :=
  (if v16 < a1.size then ((if 126 < ((Utf8.decode a1 v16).1 : Int) then some (true, v16 + (Utf8.decode a1 v16).2) else (text_Class (wu8 (((Utf8.decode a1 v16).1 : Int))) >>= fun y62 => some (decide (y62 = 0), v16 + (Utf8.decode a1 v16).2))) >>= fun (v49, v50) => (if v49 = true then some (Sum.inl v50) else text_Valid_l22 a1 v50)) else some (Sum.inr v16))
  partial_fixpoint
def text_Valid (a1 : ByteArray) : Option (Bool) :=
  (text_Valid_l22 a1 0 >>= fun o33 => match o33 with | (Sum.inl v23) => some false | (Sum.inr v24) => some (decide ((a1.size : Int) ≤ 2000)))
def text_Shown_1 (a1 : Int) : Option (Int) :=
  (if a1 = 126 then some (-1) else some a1)
def strings_Map_25 (s : ByteArray) : Option ByteArray :=
  if s.size < 35184372088832 then some ⟨(Lib.mapD (fun x => (text_Shown_1 x).getD 0) s.data.toList).toArray⟩ else none
def text_Shown (a1 : ByteArray) : Option (ByteArray × Int) :=
  (text_Valid a1 >>= fun y13 => (if (!y13) = true then some ((⟨#[]⟩ : ByteArray), 1) else (strings_Map_25 a1 >>= fun y26 => some (y26, 0))))
def text_Words_l41 (a1 : ByteArray) (v31 : Int) (v32 : Bool) (v33 : Nat) : Option (Int × Nat) :=
  (if v33 < a1.size then (text_Class (wu8 (((Utf8.decode a1 v33).1 : Int))) >>= fun y69 => (((if y69 = 6 then some (Sum.inl (v33 + (Utf8.decode a1 v33).2)) else (if y69 = 4 then some (Sum.inr (Sum.inr (Sum.inr (v33 + (Utf8.decode a1 v33).2)))) else (if y69 = 1 then some (Sum.inr (Sum.inr (Sum.inl (v33 + (Utf8.decode a1 v33).2)))) else (if y69 = 2 then some (Sum.inr (Sum.inr (Sum.inl (v33 + (Utf8.decode a1 v33).2)))) else (if y69 = 3 then some (Sum.inr (Sum.inr (Sum.inl (v33 + (Utf8.decode a1 v33).2)))) else some (Sum.inr (Sum.inl (v33 + (Utf8.decode a1 v33).2)))))))) >>= fun o108 => match o108 with | (Sum.inl v88) => some (Sum.inr (v32, v88)) | (Sum.inr (Sum.inl v89)) => some (Sum.inl v89) | (Sum.inr (Sum.inr (Sum.inl v90))) => some (Sum.inl v90) | (Sum.inr (Sum.inr (Sum.inr v91))) => some (Sum.inr (false, v91))) >>= fun o83 => match o83 with | (Sum.inl v72) => (if (!v32) = true then text_Words_l41 a1 (w64 (v31 + 1)) true v72 else text_Words_l41 a1 v31 true v72) | (Sum.inr (v73, v74)) => text_Words_l41 a1 v31 v73 v74)) else some (v31, v33))
  partial_fixpoint
def text_Words (a1 : ByteArray) : Option (Int × Int) :=
  (text_Valid a1 >>= fun y13 => (if (!y13) = true then some (0, 1) else (text_Words_l41 a1 0 false 0 >>= fun (v42, v43) => some (v42, 0))))
def strings_Trim (s t : ByteArray) : Option ByteArray :=
  if s.size ≤ 9223372036854775807 then match t.data.toList with
    | [b] => if b.toNat < 128 then some ⟨(Lib.trimB s.data.toList b).toArray⟩ else none
    | _ => none
  else none
def text_Trim (a1 : ByteArray) : Option (ByteArray × Int) :=
  (text_Valid a1 >>= fun y13 => (if (!y13) = true then some ((⟨#[]⟩ : ByteArray), 1) else (strings_Trim a1 (⟨#[32]⟩ : ByteArray) >>= fun y24 => some (y24, 0))))
def formelaw06_head : Option (Bool) :=
  (text_Shown (⟨#[97, 98, 126, 99, 100, 32, 101]⟩ : ByteArray) >>= fun (y10, y11) => (text_Words (⟨#[97, 98, 126, 99, 100, 32, 101]⟩ : ByteArray) >>= fun (y19, y20) => (text_Trim (⟨#[32, 120, 32, 32]⟩ : ByteArray) >>= fun (y28, y29) => (text_Words (⟨#[32, 120, 32, 32]⟩ : ByteArray) >>= fun (y37, y38) => (text_Words (⟨#[126, 32, 126]⟩ : ByteArray) >>= fun (y46, y47) => (text_Shown (⟨#[126, 32, 126]⟩ : ByteArray) >>= fun (y55, y56) => (text_Shown (⟨#[97, 10]⟩ : ByteArray) >>= fun (y64, y65) => ((if y11 = 0 then some (decide (y20 = 0)) else some false) >>= fun v68 => ((if v68 = true then some (decide (y29 = 0)) else some false) >>= fun v75 => ((if v75 = true then some (decide (y38 = 0)) else some false) >>= fun v82 => ((if v82 = true then some (decide (y47 = 0)) else some false) >>= fun v89 => ((if v89 = true then some (decide (y56 = 0)) else some false) >>= fun v96 => ((if v96 = true then some (decide (y65 = 1)) else some false) >>= fun v103 => ((if v103 = true then some (decide (y10 = (⟨#[97, 98, 99, 100, 32, 101]⟩ : ByteArray))) else some false) >>= fun v112 => ((if v112 = true then some (decide (y19 = 2)) else some false) >>= fun v119 => ((if v119 = true then some (decide (y28 = (⟨#[120]⟩ : ByteArray))) else some false) >>= fun v126 => ((if v126 = true then some (decide (y37 = 1)) else some false) >>= fun v133 => ((if v133 = true then some (decide (y46 = 0)) else some false) >>= fun v140 => ((if v140 = true then some (decide (y55 = (⟨#[32]⟩ : ByteArray))) else some false) >>= fun v147 => ((if v147 = true then (text_Class 97 >>= fun y166 => some (decide (y166 = 1))) else some false) >>= fun v154 => ((if v154 = true then (text_Class 90 >>= fun y179 => some (decide (y179 = 2))) else some false) >>= fun v167 => ((if v167 = true then (text_Class 55 >>= fun y192 => some (decide (y192 = 3))) else some false) >>= fun v180 => ((if v180 = true then (text_Class 45 >>= fun y205 => some (decide (y205 = 5))) else some false) >>= fun v193 => ((if v193 = true then (text_Class 126 >>= fun y218 => some (decide (y218 = 6))) else some false) >>= fun v206 => some v206))))))))))))))))))))))))
def formeref06_Class (a1 : Int) : Option (Int) :=
  ((if 97 ≤ a1 then some (decide (a1 ≤ 122)) else some false) >>= fun v8 => (if v8 = true then some 1 else ((if 65 ≤ a1 then some (decide (a1 ≤ 90)) else some false) >>= fun v22 => (if v22 = true then some 2 else ((if 48 ≤ a1 then some (decide (a1 ≤ 57)) else some false) >>= fun v36 => (if v36 = true then some 3 else (if a1 = 32 then some 4 else (if a1 = 126 then some 6 else ((if 32 < a1 then some (decide (a1 < 126)) else some false) >>= fun v64 => (if v64 = true then some 5 else some 0))))))))))
def formeref06_Valid_l18 (a1 : ByteArray) (v12 : Int) : Option (Sum Unit Unit) :=
  (if v12 < (a1.size : Int) then (if (0 : Int) ≤ v12 ∧ v12 < (a1.size : Int) then (formeref06_Class (bt a1 v12) >>= fun y47 => (if y47 = 0 then some (Sum.inl ()) else formeref06_Valid_l18 a1 (w64 (v12 + 1)))) else none) else some (Sum.inr ()))
  partial_fixpoint
def formeref06_Valid (a1 : ByteArray) : Option (Bool) :=
  (formeref06_Valid_l18 a1 0 >>= fun o27 => match o27 with | (Sum.inl _) => some false | (Sum.inr _) => some (decide ((a1.size : Int) ≤ 2000)))
def formeref06_shown_l34 (a1 : ByteArray) (v14 : List Int) (v21 : Int) : Option ((List Int)) :=
  (if v21 < (a1.size : Int) then ((if (0 : Int) ≤ v21 ∧ v21 < (a1.size : Int) then (if ¬ (bt a1 v21) = 126 then (if (0 : Int) ≤ v21 ∧ v21 < (a1.size : Int) then (if v14.length + 1 ≤ 140737488355328 then some (v14 ++ [bt a1 v21]) else none) else none) else some v14) else none) >>= fun v58 => formeref06_shown_l34 a1 v58 (w64 (v21 + 1))) else some v14)
  partial_fixpoint
def formeref06_shown (a1 : ByteArray) : Option (ByteArray) :=
  (formeref06_shown_l34 a1 ([] : List Int) 0 >>= fun v35 => some (bstr v35))
def formeref06_Shown (a1 : ByteArray) : Option (ByteArray × Int) :=
  (formeref06_Valid a1 >>= fun y13 => (if (!y13) = true then some ((⟨#[]⟩ : ByteArray), 1) else (formeref06_shown a1 >>= fun y24 => some (y24, 0))))
def formeref06_Words_l43 (y24 : ByteArray) (v35 : Int) (v36 : Int) : Option (Int) :=
  (if v36 < (y24.size : Int) then ((if (0 : Int) ≤ v36 ∧ v36 < (y24.size : Int) then ((if ¬ (bt y24 v36) = 32 then ((if v36 = 0 then some true else (if (0 : Int) ≤ w64 (v36 - 1) ∧ w64 (v36 - 1) < (y24.size : Int) then some (decide ((bt y24 (w64 (v36 - 1))) = 32)) else none)) >>= fun v77 => some v77) else some false) >>= fun v70 => (if v70 = true then some (w64 (v35 + 1)) else some v35)) else none) >>= fun v61 => formeref06_Words_l43 y24 v61 (w64 (v36 + 1))) else some v35)
  partial_fixpoint
def formeref06_Words (a1 : ByteArray) : Option (Int × Int) :=
  (formeref06_Valid a1 >>= fun y13 => (if (!y13) = true then some (0, 1) else (formeref06_shown a1 >>= fun y24 => (formeref06_Words_l43 y24 0 0 >>= fun v44 => some (v44, 0)))))
def formeref06_Trim_l29 (v23 : ByteArray) : Option (ByteArray) :=
  ((if 0 < (v23.size : Int) then (if (0 : Int) ≤ 0 ∧ 0 < (v23.size : Int) then some (decide ((bt v23 0) = 32)) else none) else some false) >>= fun v44 => (if v44 = true then (if (0 : Int) ≤ 1 ∧ (1 : Int) ≤ (v23.size : Int) then formeref06_Trim_l29 (sub v23 1 (v23.size : Int)) else none) else some v23))
  partial_fixpoint
def formeref06_Trim_l68 (v62 : ByteArray) : Option (ByteArray) :=
  ((if 0 < (v62.size : Int) then (if (0 : Int) ≤ w64 ((v62.size : Int) - 1) ∧ w64 ((v62.size : Int) - 1) < (v62.size : Int) then some (decide ((bt v62 (w64 ((v62.size : Int) - 1))) = 32)) else none) else some false) >>= fun v83 => (if v83 = true then (if (0 : Int) ≤ (w64 ((v62.size : Int) - 1)) ∧ (w64 ((v62.size : Int) - 1)) ≤ (v62.size : Int) then formeref06_Trim_l68 (sub v62 0 (w64 ((v62.size : Int) - 1))) else none) else some v62))
  partial_fixpoint
def formeref06_Trim (a1 : ByteArray) : Option (ByteArray × Int) :=
  (formeref06_Valid a1 >>= fun y13 => (if (!y13) = true then some ((⟨#[]⟩ : ByteArray), 1) else (formeref06_Trim_l29 a1 >>= fun v30 => (formeref06_Trim_l68 v30 >>= fun v69 => some (v69, 0)))))
def formelaw06_TextMatchesReference (a1 : ByteArray) (a2 : Int) : Option (Bool) :=
  (formelaw06_head >>= fun y12 => (if 3000 < (a1.size : Int) then some y12 else (text_Shown a1 >>= fun (y27, y28) => (formeref06_Shown a1 >>= fun (y36, y37) => ((if y12 = true then (text_Valid a1 >>= fun y52 => (formeref06_Valid a1 >>= fun y58 => some (decide (y52 = y58)))) else some false) >>= fun v40 => ((if v40 = true then (text_Class a2 >>= fun y71 => (formeref06_Class a2 >>= fun y77 => some (decide (y71 = y77)))) else some false) >>= fun v59 => ((if v59 = true then some (decide (y27 = y36)) else some false) >>= fun v78 => ((if v78 = true then some (decide (y28 = y37)) else some false) >>= fun v85 => (text_Words a1 >>= fun (y99, y100) => (formeref06_Words a1 >>= fun (y108, y109) => ((if v85 = true then some (decide (y99 = y108)) else some false) >>= fun v112 => ((if v112 = true then some (decide (y100 = y109)) else some false) >>= fun v119 => (text_Trim a1 >>= fun (y133, y134) => (formeref06_Trim a1 >>= fun (y142, y143) => ((if v119 = true then some (decide (y133 = y142)) else some false) >>= fun v146 => ((if v146 = true then some (decide (y134 = y143)) else some false) >>= fun v153 => some v153))))))))))))))))
def formelaw06_TextParts (a1 : ByteArray) (a2 : ByteArray) : Option (Bool) :=
  (formelaw06_head >>= fun y12 => (formeref06_Valid a1 >>= fun y22 => ((if (!y22) = true then some true else (formeref06_Valid a2 >>= fun y35 => some (!y35))) >>= fun v23 => ((if v23 = true then some true else some (decide (900 < (a1.size : Int)))) >>= fun v36 => ((if v36 = true then some true else some (decide (900 < (a2.size : Int)))) >>= fun v43 => (if v43 = true then some y12 else (text_Words a1 >>= fun (y60, y61) => (text_Words a2 >>= fun (y69, y70) => (if a1.size + (⟨#[32]⟩ : ByteArray).size ≤ 9223372036854775807 then (if (a1 ++ (⟨#[32]⟩ : ByteArray)).size + a2.size ≤ 9223372036854775807 then (text_Words ((a1 ++ (⟨#[32]⟩ : ByteArray)) ++ a2) >>= fun (y80, y81) => (if a1.size + a2.size ≤ 9223372036854775807 then (text_Words (a1 ++ a2) >>= fun (y90, y91) => ((if y12 = true then some (decide (y61 = 0)) else some false) >>= fun v94 => ((if v94 = true then some (decide (y70 = 0)) else some false) >>= fun v101 => ((if v101 = true then some (decide (y81 = 0)) else some false) >>= fun v108 => ((if v108 = true then some (decide (y91 = 0)) else some false) >>= fun v115 => ((if v115 = true then some (decide (y80 = (w64 (y60 + y69)))) else some false) >>= fun v122 => ((if v122 = true then ((if y90 = y80 then some true else ((if y90 = (w64 (y80 - 1)) then some (decide (0 < y60)) else some false) >>= fun v143 => ((if v143 = true then some (decide (0 < y69)) else some false) >>= fun v150 => some v150))) >>= fun v136 => some v136) else some false) >>= fun v129 => some v129))))))) else none)) else none) else none)))))))))
def strings_HasPrefix (s t : ByteArray) : Option Bool :=
  if s.size ≤ 9223372036854775807 then some (Lib.hasPrefix s.data.toList t.data.toList) else none
def strings_HasSuffix (s t : ByteArray) : Option Bool :=
  if s.size ≤ 9223372036854775807 then some (Lib.hasSuffix s.data.toList t.data.toList) else none
def formelaw06_TextClasses_l37 (a1 : ByteArray) (v29 : Bool) (v30 : Int) : Option (Bool) :=
  (if v30 < (a1.size : Int) then ((if v29 = true then (if (0 : Int) ≤ v30 ∧ v30 < (a1.size : Int) then (text_Class (bt a1 v30) >>= fun y68 => some (decide (0 < y68))) else none) else some false) >>= fun v55 => formelaw06_TextClasses_l37 a1 v55 (w64 (v30 + 1))) else some v29)
  partial_fixpoint
def formelaw06_TextClasses (a1 : ByteArray) : Option (Bool) :=
  (formelaw06_head >>= fun y11 => (if 3000 < (a1.size : Int) then some y11 else (formelaw06_TextClasses_l37 a1 (decide ((a1.size : Int) ≤ 2000)) 0 >>= fun v38 => (text_Valid a1 >>= fun y78 => (if ¬ y78 = v38 then some false else ((if (!v38) = true then some true else (strings_HasPrefix a1 (⟨#[126]⟩ : ByteArray) >>= fun y98 => some y98)) >>= fun v86 => ((if v86 = true then some true else (strings_HasSuffix a1 (⟨#[126]⟩ : ByteArray) >>= fun y111 => some y111)) >>= fun v99 => (if v99 = true then some y11 else (text_Shown a1 >>= fun (y122, y123) => (text_Trim y122 >>= fun (y131, y132) => (text_Trim a1 >>= fun (y140, y141) => (text_Shown y140 >>= fun (y149, y150) => ((if ¬ y123 = 0 then some true else some (decide (¬ y132 = 0))) >>= fun v155 => ((if v155 = true then some true else some (decide (¬ y141 = 0))) >>= fun v162 => ((if v162 = true then some true else some (decide (¬ y150 = 0))) >>= fun v169 => (if v169 = true then some false else ((if y11 = true then ((if y131 = y149 then some true else (strings_HasPrefix y140 (⟨#[126]⟩ : ByteArray) >>= fun y200 => some y200)) >>= fun v188 => ((if v188 = true then some true else (strings_HasSuffix y140 (⟨#[126]⟩ : ByteArray) >>= fun y213 => some y213)) >>= fun v201 => some v201)) else some false) >>= fun v181 => some v181)))))))))))))))))
def strings_Count (s t : ByteArray) : Option Int :=
  match t.data.toList with
  | [b] => some (Lib.countByte s.data.toList b : Int)
  | _ => none
def formelaw06_TextWords (a1 : ByteArray) : Option (Bool) :=
  (formelaw06_head >>= fun y11 => (formeref06_Valid a1 >>= fun y21 => (if (!y21) = true then some y11 else (text_Shown a1 >>= fun (y32, y33) => (text_Words a1 >>= fun (y41, y42) => (text_Words y32 >>= fun (y50, y51) => ((if y11 = true then some (decide (y33 = 0)) else some false) >>= fun v54 => ((if v54 = true then some (decide (y42 = 0)) else some false) >>= fun v61 => ((if v61 = true then some (decide (y51 = 0)) else some false) >>= fun v68 => ((if v68 = true then some (decide (y41 = y50)) else some false) >>= fun v75 => ((if v75 = true then (strings_Count y32 (⟨#[32]⟩ : ByteArray) >>= fun y94 => some (decide ((decide (0 < y41)) = (decide (y94 < (y32.size : Int)))))) else some false) >>= fun v82 => ((if v82 = true then some (decide (0 ≤ y41)) else some false) >>= fun v95 => ((if v95 = true then some (decide ((w64 (2 * y41)) ≤ (w64 ((y32.size : Int) + 1)))) else some false) >>= fun v102 => some v102)))))))))))))
def strings_Contains (s t : ByteArray) : Option Bool :=
  match t.data.toList with
  | [b] => some (decide (0 ≤ Lib.indexByte s.data.toList b))
  | _ => none
def formelaw06_TextShown (a1 : ByteArray) : Option (Bool) :=
  (formelaw06_head >>= fun y11 => (formeref06_Valid a1 >>= fun y21 => (if (!y21) = true then some y11 else (text_Shown a1 >>= fun (y32, y33) => (text_Shown y32 >>= fun (y41, y42) => ((if y11 = true then some (decide (y33 = 0)) else some false) >>= fun v45 => ((if v45 = true then some (decide (y42 = 0)) else some false) >>= fun v52 => ((if v52 = true then some (decide (y32 = y41)) else some false) >>= fun v59 => ((if v59 = true then (text_Valid y32 >>= fun y78 => some y78) else some false) >>= fun v66 => ((if v66 = true then (strings_Contains y32 (⟨#[126]⟩ : ByteArray) >>= fun y91 => some (!y91)) else some false) >>= fun v79 => ((if v79 = true then (strings_Count a1 (⟨#[126]⟩ : ByteArray) >>= fun y104 => some (decide ((w64 ((y32.size : Int) + y104)) = (a1.size : Int)))) else some false) >>= fun v92 => some v92)))))))))))
def strings_Index (s t : ByteArray) : Option Int :=
  if s.size < 4294967281 then some (Lib.index s.data.toList t.data.toList) else none
def formelaw06_TextTrims (a1 : ByteArray) : Option (Bool) :=
  (formelaw06_head >>= fun y11 => (formeref06_Valid a1 >>= fun y21 => (if (!y21) = true then some y11 else (text_Trim a1 >>= fun (y32, y33) => (text_Trim y32 >>= fun (y41, y42) => (text_Words a1 >>= fun (y50, y51) => (text_Words y32 >>= fun (y59, y60) => ((if ¬ y33 = 0 then some true else some (decide (¬ y42 = 0))) >>= fun v65 => ((if v65 = true then some true else some (decide (¬ y51 = 0))) >>= fun v72 => ((if v72 = true then some true else some (decide (¬ y60 = 0))) >>= fun v79 => ((if v79 = true then some true else some (decide (¬ y32 = y41))) >>= fun v86 => ((if v86 = true then some true else some (decide (¬ y50 = y59))) >>= fun v93 => ((if v93 = true then some true else (strings_HasPrefix y32 (⟨#[32]⟩ : ByteArray) >>= fun y112 => some y112)) >>= fun v100 => ((if v100 = true then some true else (strings_HasSuffix y32 (⟨#[32]⟩ : ByteArray) >>= fun y125 => some y125)) >>= fun v113 => (if v113 = true then some false else (strings_Index a1 y32 >>= fun y136 => ((if y11 = true then some (decide (0 ≤ y136)) else some false) >>= fun v139 => ((if v139 = true then (if (0 : Int) ≤ y136 ∧ y136 ≤ (a1.size : Int) then (strings_Count (sub a1 0 y136) (⟨#[32]⟩ : ByteArray) >>= fun y161 => some (decide (y161 = y136))) else none) else some false) >>= fun v146 => ((if v146 = true then (if (0 : Int) ≤ (w64 (y136 + (y32.size : Int))) ∧ (w64 (y136 + (y32.size : Int)) : Int) ≤ (a1.size : Int) then (strings_Count (sub a1 (w64 (y136 + (y32.size : Int))) (a1.size : Int)) (⟨#[32]⟩ : ByteArray) >>= fun y177 => some (decide (y177 = (w64 ((w64 ((a1.size : Int) - y136)) - (y32.size : Int)))))) else none) else some false) >>= fun v162 => some v162)))))))))))))))))))
end Go.Proofs.YtpefcdchjokggaaDoor.LG
