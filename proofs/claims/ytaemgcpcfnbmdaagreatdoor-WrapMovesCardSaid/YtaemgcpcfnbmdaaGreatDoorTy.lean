/-
 Closed facts of the program's types, and how each struct lies in memory: printed by a program out of the translation.
-/
import Derived.Test.YtaemgcpcfnbmdaaGreatDoorProg
import Derived.KernelRfl
import Derived.Test.YtaemgcpcfnbmdaaGreatDoorLgW
import Derived.Test.YtaemgcpcfnbmdaaGreatDoorPd
set_option linter.unusedVariables false
set_option linter.unusedSimpArgs false
set_option maxRecDepth 100000
namespace Go.Proofs.YtaemgcpcfnbmdaaGreatDoor.LG
open Go Go.LG Go.RowKit Go.Value
theorem ag103 : aggB Tryz.prog 103 = some (true, 2) := by kernel_rfl
theorem ag114 : aggB Tryz.prog 114 = some (true, 2) := by kernel_rfl
theorem ag122 : aggB Tryz.prog 122 = some (true, 3) := by kernel_rfl
theorem ag127 : aggB Tryz.prog 127 = some (true, 2) := by kernel_rfl
theorem ag133 : aggB Tryz.prog 133 = some (false, 1) := by kernel_rfl
theorem ag137 : aggB Tryz.prog 137 = some (true, 5) := by kernel_rfl
theorem ag145 : aggB Tryz.prog 145 = some (false, 1) := by kernel_rfl
theorem ag147 : aggB Tryz.prog 147 = some (true, 5) := by kernel_rfl
theorem ag186 : aggB Tryz.prog 186 = some (false, 1) := by kernel_rfl
theorem ag207 : aggB Tryz.prog 207 = some (true, 4) := by kernel_rfl
theorem ag22 : aggB Tryz.prog 22 = some (false, 1) := by kernel_rfl
theorem ag221 : aggB Tryz.prog 221 = some (false, 1) := by kernel_rfl
theorem ag23 : aggB Tryz.prog 23 = some (false, 1) := by kernel_rfl
theorem ag25 : aggB Tryz.prog 25 = some (true, 2) := by kernel_rfl
theorem ag26 : aggB Tryz.prog 26 = some (false, 1) := by kernel_rfl
theorem ag28 : aggB Tryz.prog 28 = some (true, 3) := by kernel_rfl
theorem ag3 : aggB Tryz.prog 3 = some (false, 1) := by kernel_rfl
theorem ag30 : aggB Tryz.prog 30 = some (true, 6) := by kernel_rfl
theorem ag31 : aggB Tryz.prog 31 = some (false, 1) := by kernel_rfl
theorem ag4 : aggB Tryz.prog 4 = some (false, 1) := by kernel_rfl
theorem ag41 : aggB Tryz.prog 41 = some (false, 1) := by kernel_rfl
theorem ag44 : aggB Tryz.prog 44 = some (false, 1) := by kernel_rfl
theorem ag46 : aggB Tryz.prog 46 = some (true, 4) := by kernel_rfl
theorem ag5 : aggB Tryz.prog 5 = some (false, 1) := by kernel_rfl
theorem ag50 : aggB Tryz.prog 50 = some (true, 5) := by kernel_rfl
theorem ag53 : aggB Tryz.prog 53 = some (true, 2) := by kernel_rfl
theorem ag57 : aggB Tryz.prog 57 = some (true, 5) := by kernel_rfl
theorem ag62 : aggB Tryz.prog 62 = some (false, 1) := by kernel_rfl
theorem ag75 : aggB Tryz.prog 75 = some (false, 1) := by kernel_rfl
theorem ag77 : aggB Tryz.prog 77 = some (false, 1) := by kernel_rfl
theorem ag79 : aggB Tryz.prog 79 = some (true, 3) := by kernel_rfl
theorem ag9 : aggB Tryz.prog 9 = some (false, 1) := by kernel_rfl
theorem ag97 : aggB Tryz.prog 97 = some (true, 12) := by kernel_rfl
theorem ar206 : arrB Tryz.prog 206 = some (2, 3, 1) := by kernel_rfl
theorem ar207 : arrB Tryz.prog 207 = some (2, 206, 2) := by kernel_rfl
theorem bo10 : bodyB Tryz.prog 10 = true := by kernel_rfl
theorem bo100 : bodyB Tryz.prog 100 = true := by kernel_rfl
theorem bo101 : bodyB Tryz.prog 101 = true := by kernel_rfl
theorem bo102 : bodyB Tryz.prog 102 = true := by kernel_rfl
theorem bo103 : bodyB Tryz.prog 103 = true := by kernel_rfl
theorem bo104 : bodyB Tryz.prog 104 = true := by kernel_rfl
theorem bo105 : bodyB Tryz.prog 105 = true := by kernel_rfl
theorem bo11 : bodyB Tryz.prog 11 = true := by kernel_rfl
theorem bo114 : bodyB Tryz.prog 114 = true := by kernel_rfl
theorem bo115 : bodyB Tryz.prog 115 = true := by kernel_rfl
theorem bo116 : bodyB Tryz.prog 116 = true := by kernel_rfl
theorem bo117 : bodyB Tryz.prog 117 = true := by kernel_rfl
theorem bo118 : bodyB Tryz.prog 118 = true := by kernel_rfl
theorem bo119 : bodyB Tryz.prog 119 = true := by kernel_rfl
theorem bo12 : bodyB Tryz.prog 12 = true := by kernel_rfl
theorem bo120 : bodyB Tryz.prog 120 = true := by kernel_rfl
theorem bo121 : bodyB Tryz.prog 121 = true := by kernel_rfl
theorem bo122 : bodyB Tryz.prog 122 = true := by kernel_rfl
theorem bo128 : bodyB Tryz.prog 128 = true := by kernel_rfl
theorem bo129 : bodyB Tryz.prog 129 = true := by kernel_rfl
theorem bo130 : bodyB Tryz.prog 130 = true := by kernel_rfl
theorem bo131 : bodyB Tryz.prog 131 = true := by kernel_rfl
theorem bo132 : bodyB Tryz.prog 132 = true := by kernel_rfl
theorem bo133 : bodyB Tryz.prog 133 = true := by kernel_rfl
theorem bo134 : bodyB Tryz.prog 134 = true := by kernel_rfl
theorem bo14 : bodyB Tryz.prog 14 = true := by kernel_rfl
theorem bo144 : bodyB Tryz.prog 144 = true := by kernel_rfl
theorem bo145 : bodyB Tryz.prog 145 = true := by kernel_rfl
theorem bo146 : bodyB Tryz.prog 146 = true := by kernel_rfl
theorem bo147 : bodyB Tryz.prog 147 = true := by kernel_rfl
theorem bo148 : bodyB Tryz.prog 148 = true := by kernel_rfl
theorem bo149 : bodyB Tryz.prog 149 = true := by kernel_rfl
theorem bo15 : bodyB Tryz.prog 15 = true := by kernel_rfl
theorem bo150 : bodyB Tryz.prog 150 = true := by kernel_rfl
theorem bo151 : bodyB Tryz.prog 151 = true := by kernel_rfl
theorem bo152 : bodyB Tryz.prog 152 = true := by kernel_rfl
theorem bo16 : bodyB Tryz.prog 16 = true := by kernel_rfl
theorem bo160 : bodyB Tryz.prog 160 = true := by kernel_rfl
theorem bo161 : bodyB Tryz.prog 161 = true := by kernel_rfl
theorem bo162 : bodyB Tryz.prog 162 = true := by kernel_rfl
theorem bo163 : bodyB Tryz.prog 163 = true := by kernel_rfl
theorem bo17 : bodyB Tryz.prog 17 = true := by kernel_rfl
theorem bo172 : bodyB Tryz.prog 172 = true := by kernel_rfl
theorem bo173 : bodyB Tryz.prog 173 = true := by kernel_rfl
theorem bo174 : bodyB Tryz.prog 174 = true := by kernel_rfl
theorem bo175 : bodyB Tryz.prog 175 = true := by kernel_rfl
theorem bo176 : bodyB Tryz.prog 176 = true := by kernel_rfl
theorem bo178 : bodyB Tryz.prog 178 = true := by kernel_rfl
theorem bo18 : bodyB Tryz.prog 18 = true := by kernel_rfl
theorem bo187 : bodyB Tryz.prog 187 = true := by kernel_rfl
theorem bo22 : bodyB Tryz.prog 22 = true := by kernel_rfl
theorem bo23 : bodyB Tryz.prog 23 = true := by kernel_rfl
theorem bo24 : bodyB Tryz.prog 24 = true := by kernel_rfl
theorem bo25 : bodyB Tryz.prog 25 = true := by kernel_rfl
theorem bo26 : bodyB Tryz.prog 26 = true := by kernel_rfl
theorem bo27 : bodyB Tryz.prog 27 = true := by kernel_rfl
theorem bo32 : bodyB Tryz.prog 32 = true := by kernel_rfl
theorem bo33 : bodyB Tryz.prog 33 = true := by kernel_rfl
theorem bo34 : bodyB Tryz.prog 34 = true := by kernel_rfl
theorem bo35 : bodyB Tryz.prog 35 = true := by kernel_rfl
theorem bo36 : bodyB Tryz.prog 36 = true := by kernel_rfl
theorem bo37 : bodyB Tryz.prog 37 = true := by kernel_rfl
theorem bo38 : bodyB Tryz.prog 38 = true := by kernel_rfl
theorem bo39 : bodyB Tryz.prog 39 = true := by kernel_rfl
theorem bo40 : bodyB Tryz.prog 40 = true := by kernel_rfl
theorem bo41 : bodyB Tryz.prog 41 = true := by kernel_rfl
theorem bo42 : bodyB Tryz.prog 42 = true := by kernel_rfl
theorem bo43 : bodyB Tryz.prog 43 = true := by kernel_rfl
theorem bo44 : bodyB Tryz.prog 44 = true := by kernel_rfl
theorem bo45 : bodyB Tryz.prog 45 = true := by kernel_rfl
theorem bo46 : bodyB Tryz.prog 46 = true := by kernel_rfl
theorem bo48 : bodyB Tryz.prog 48 = true := by kernel_rfl
theorem bo49 : bodyB Tryz.prog 49 = true := by kernel_rfl
theorem bo50 : bodyB Tryz.prog 50 = true := by kernel_rfl
theorem bo51 : bodyB Tryz.prog 51 = true := by kernel_rfl
theorem bo52 : bodyB Tryz.prog 52 = true := by kernel_rfl
theorem bo53 : bodyB Tryz.prog 53 = true := by kernel_rfl
theorem bo54 : bodyB Tryz.prog 54 = true := by kernel_rfl
theorem bo64 : bodyB Tryz.prog 64 = true := by kernel_rfl
theorem bo65 : bodyB Tryz.prog 65 = true := by kernel_rfl
theorem bo66 : bodyB Tryz.prog 66 = true := by kernel_rfl
theorem bo67 : bodyB Tryz.prog 67 = true := by kernel_rfl
theorem bo68 : bodyB Tryz.prog 68 = true := by kernel_rfl
theorem bo69 : bodyB Tryz.prog 69 = true := by kernel_rfl
theorem bo70 : bodyB Tryz.prog 70 = true := by kernel_rfl
theorem bo71 : bodyB Tryz.prog 71 = true := by kernel_rfl
theorem bo72 : bodyB Tryz.prog 72 = true := by kernel_rfl
theorem bo73 : bodyB Tryz.prog 73 = true := by kernel_rfl
theorem bo74 : bodyB Tryz.prog 74 = true := by kernel_rfl
theorem bo75 : bodyB Tryz.prog 75 = true := by kernel_rfl
theorem bo76 : bodyB Tryz.prog 76 = true := by kernel_rfl
theorem bo77 : bodyB Tryz.prog 77 = true := by kernel_rfl
theorem bo78 : bodyB Tryz.prog 78 = true := by kernel_rfl
theorem bo79 : bodyB Tryz.prog 79 = true := by kernel_rfl
theorem bo80 : bodyB Tryz.prog 80 = true := by kernel_rfl
theorem bo81 : bodyB Tryz.prog 81 = true := by kernel_rfl
theorem bo82 : bodyB Tryz.prog 82 = true := by kernel_rfl
theorem bo83 : bodyB Tryz.prog 83 = true := by kernel_rfl
theorem bo84 : bodyB Tryz.prog 84 = true := by kernel_rfl
theorem bo85 : bodyB Tryz.prog 85 = true := by kernel_rfl
theorem bo86 : bodyB Tryz.prog 86 = true := by kernel_rfl
theorem bo87 : bodyB Tryz.prog 87 = true := by kernel_rfl
theorem bo95 : bodyB Tryz.prog 95 = true := by kernel_rfl
theorem bo96 : bodyB Tryz.prog 96 = true := by kernel_rfl
theorem bo97 : bodyB Tryz.prog 97 = true := by kernel_rfl
theorem bo98 : bodyB Tryz.prog 98 = true := by kernel_rfl
theorem bo99 : bodyB Tryz.prog 99 = true := by kernel_rfl
theorem el133 : elemB Tryz.prog 133 = some (5, 1, 1) := by kernel_rfl
theorem el22 : elemB Tryz.prog 22 = some (103, 2, 16) := by kernel_rfl
theorem el23 : elemB Tryz.prog 23 = some (122, 3, 16) := by kernel_rfl
theorem el26 : elemB Tryz.prog 26 = some (9, 1, 16) := by kernel_rfl
theorem el31 : elemB Tryz.prog 31 = some (57, 5, 40) := by kernel_rfl
theorem el34 : elemB Tryz.prog 34 = some (50, 5, 48) := by kernel_rfl
theorem el41 : elemB Tryz.prog 41 = some (46, 4, 32) := by kernel_rfl
theorem el44 : elemB Tryz.prog 44 = some (3, 1, 8) := by kernel_rfl
theorem el77 : elemB Tryz.prog 77 = some (114, 2, 16) := by kernel_rfl
theorem fl103_0 : fieldB Tryz.prog 103 0 = some (0, 1) := by kernel_rfl
theorem fl103_1 : fieldB Tryz.prog 103 1 = some (1, 1) := by kernel_rfl
theorem fl114_0 : fieldB Tryz.prog 114 0 = some (0, 1) := by kernel_rfl
theorem fl114_1 : fieldB Tryz.prog 114 1 = some (1, 1) := by kernel_rfl
theorem fl122_0 : fieldB Tryz.prog 122 0 = some (0, 1) := by kernel_rfl
theorem fl122_1 : fieldB Tryz.prog 122 1 = some (1, 1) := by kernel_rfl
theorem fl122_2 : fieldB Tryz.prog 122 2 = some (2, 1) := by kernel_rfl
theorem fl127_0 : fieldB Tryz.prog 127 0 = some (0, 1) := by kernel_rfl
theorem fl127_1 : fieldB Tryz.prog 127 1 = some (1, 1) := by kernel_rfl
theorem fl137_0 : fieldB Tryz.prog 137 0 = some (0, 5) := by kernel_rfl
theorem fl147_0 : fieldB Tryz.prog 147 0 = some (0, 3) := by kernel_rfl
theorem fl147_1 : fieldB Tryz.prog 147 1 = some (3, 1) := by kernel_rfl
theorem fl147_2 : fieldB Tryz.prog 147 2 = some (4, 1) := by kernel_rfl
theorem fl25_0 : fieldB Tryz.prog 25 0 = some (0, 1) := by kernel_rfl
theorem fl25_1 : fieldB Tryz.prog 25 1 = some (1, 1) := by kernel_rfl
theorem fl28_0 : fieldB Tryz.prog 28 0 = some (0, 1) := by kernel_rfl
theorem fl28_1 : fieldB Tryz.prog 28 1 = some (1, 1) := by kernel_rfl
theorem fl28_2 : fieldB Tryz.prog 28 2 = some (2, 1) := by kernel_rfl
theorem fl30_0 : fieldB Tryz.prog 30 0 = some (0, 1) := by kernel_rfl
theorem fl30_1 : fieldB Tryz.prog 30 1 = some (1, 1) := by kernel_rfl
theorem fl30_2 : fieldB Tryz.prog 30 2 = some (2, 1) := by kernel_rfl
theorem fl30_3 : fieldB Tryz.prog 30 3 = some (3, 1) := by kernel_rfl
theorem fl30_4 : fieldB Tryz.prog 30 4 = some (4, 1) := by kernel_rfl
theorem fl30_5 : fieldB Tryz.prog 30 5 = some (5, 1) := by kernel_rfl
theorem fl46_0 : fieldB Tryz.prog 46 0 = some (0, 1) := by kernel_rfl
theorem fl46_1 : fieldB Tryz.prog 46 1 = some (1, 1) := by kernel_rfl
theorem fl46_2 : fieldB Tryz.prog 46 2 = some (2, 1) := by kernel_rfl
theorem fl46_3 : fieldB Tryz.prog 46 3 = some (3, 1) := by kernel_rfl
theorem fl50_2 : fieldB Tryz.prog 50 2 = some (2, 1) := by kernel_rfl
theorem fl53_0 : fieldB Tryz.prog 53 0 = some (0, 1) := by kernel_rfl
theorem fl53_1 : fieldB Tryz.prog 53 1 = some (1, 1) := by kernel_rfl
theorem fl57_0 : fieldB Tryz.prog 57 0 = some (0, 1) := by kernel_rfl
theorem fl57_1 : fieldB Tryz.prog 57 1 = some (1, 1) := by kernel_rfl
theorem fl57_2 : fieldB Tryz.prog 57 2 = some (2, 1) := by kernel_rfl
theorem fl57_3 : fieldB Tryz.prog 57 3 = some (3, 1) := by kernel_rfl
theorem fl57_4 : fieldB Tryz.prog 57 4 = some (4, 1) := by kernel_rfl
theorem fl79_0 : fieldB Tryz.prog 79 0 = some (0, 1) := by kernel_rfl
theorem fl79_1 : fieldB Tryz.prog 79 1 = some (1, 1) := by kernel_rfl
theorem fl79_2 : fieldB Tryz.prog 79 2 = some (2, 1) := by kernel_rfl
theorem fl97_0 : fieldB Tryz.prog 97 0 = some (0, 2) := by kernel_rfl
theorem fl97_1 : fieldB Tryz.prog 97 1 = some (2, 3) := by kernel_rfl
theorem fl97_2 : fieldB Tryz.prog 97 2 = some (5, 1) := by kernel_rfl
theorem fl97_3 : fieldB Tryz.prog 97 3 = some (6, 1) := by kernel_rfl
theorem fl97_4 : fieldB Tryz.prog 97 4 = some (7, 1) := by kernel_rfl
theorem fl97_5 : fieldB Tryz.prog 97 5 = some (8, 1) := by kernel_rfl
theorem fl97_6 : fieldB Tryz.prog 97 6 = some (9, 1) := by kernel_rfl
theorem fl97_7 : fieldB Tryz.prog 97 7 = some (10, 1) := by kernel_rfl
theorem fl97_8 : fieldB Tryz.prog 97 8 = some (11, 1) := by kernel_rfl
theorem ik21 : intKB Tryz.prog 21 = some .i32 := by kernel_rfl
theorem ik3 : intKB Tryz.prog 3 = some .i64 := by kernel_rfl
theorem ik5 : intKB Tryz.prog 5 = some .u8 := by kernel_rfl
theorem ik66 : intKB Tryz.prog 66 = some .u16 := by kernel_rfl
theorem ik91 : intKB Tryz.prog 91 = some .u64 := by kernel_rfl
theorem mixo : Tryz.prog.follows .mixedOrders = true := by kernel_rfl
theorem mt145 : mapB Tryz.prog 145 = some (9, 4) := by kernel_rfl
theorem pl103 : placesB Tryz.prog 103 = some [(0, 1), (1, 1)] := by kernel_rfl
theorem pl114 : placesB Tryz.prog 114 = some [(0, 1), (1, 1)] := by kernel_rfl
theorem pl127 : placesB Tryz.prog 127 = some [(0, 1), (1, 1)] := by kernel_rfl
theorem pl137 : placesB Tryz.prog 137 = some [(0, 5)] := by kernel_rfl
theorem pl147 : placesB Tryz.prog 147 = some [(0, 3), (3, 1), (4, 1)] := by kernel_rfl
theorem pl25 : placesB Tryz.prog 25 = some [(0, 1), (1, 1)] := by kernel_rfl
theorem pl28 : placesB Tryz.prog 28 = some [(0, 1), (1, 1), (2, 1)] := by kernel_rfl
theorem pl46 : placesB Tryz.prog 46 = some [(0, 1), (1, 1), (2, 1), (3, 1)] := by kernel_rfl
theorem pl50 : placesB Tryz.prog 50 = some [(0, 1), (1, 1), (2, 1), (3, 1), (4, 1)] := by kernel_rfl
theorem pl53 : placesB Tryz.prog 53 = some [(0, 1), (1, 1)] := by kernel_rfl
theorem pl57 : placesB Tryz.prog 57 = some [(0, 1), (1, 1), (2, 1), (3, 1), (4, 1)] := by kernel_rfl
theorem pl79 : placesB Tryz.prog 79 = some [(0, 1), (1, 1), (2, 1)] := by kernel_rfl
theorem pl97 : placesB Tryz.prog 97 = some [(0, 2), (2, 3), (5, 1), (6, 1), (7, 1), (8, 1), (9, 1), (10, 1), (11, 1)] := by kernel_rfl
theorem so133 : sortB Tryz.prog 133 = some 1 := by kernel_rfl
theorem so22 : sortB Tryz.prog 22 = some 1 := by kernel_rfl
theorem so23 : sortB Tryz.prog 23 = some 1 := by kernel_rfl
theorem so26 : sortB Tryz.prog 26 = some 1 := by kernel_rfl
theorem so31 : sortB Tryz.prog 31 = some 1 := by kernel_rfl
theorem so34 : sortB Tryz.prog 34 = some 1 := by kernel_rfl
theorem so41 : sortB Tryz.prog 41 = some 1 := by kernel_rfl
theorem so44 : sortB Tryz.prog 44 = some 1 := by kernel_rfl
theorem so77 : sortB Tryz.prog 77 = some 1 := by kernel_rfl
theorem so9 : sortB Tryz.prog 9 = some 0 := by kernel_rfl
theorem ze103 : zeroB Tryz.prog 103 = some [Value.int .u8 0, Value.int .i64 0] := by kernel_rfl
theorem ze114 : zeroB Tryz.prog 114 = some [Value.int .i64 0, Value.bool false] := by kernel_rfl
theorem ze122 : zeroB Tryz.prog 122 = some [Value.int .u8 0, Value.int .u8 0, Value.int .i64 0] := by kernel_rfl
theorem ze127 : zeroB Tryz.prog 127 = some [Value.int .u8 0, Value.int .u8 0] := by kernel_rfl
theorem ze137 : zeroB Tryz.prog 137 = some [Value.int .i64 0, Value.int .i64 0, Value.int .i64 0, Value.int .i64 0, Value.int .i64 0] := by kernel_rfl
theorem ze147 : zeroB Tryz.prog 147 = some [Value.int .i64 0, Value.int .i64 0, Value.slice none 0 0, Value.string (⟨#[]⟩ : ByteArray), Value.map none] := by kernel_rfl
theorem ze206 : zeroB Tryz.prog 206 = some [Value.int .i64 0, Value.int .i64 0] := by kernel_rfl
theorem ze207 : zeroB Tryz.prog 207 = some [Value.int .i64 0, Value.int .i64 0, Value.int .i64 0, Value.int .i64 0] := by kernel_rfl
theorem ze221 : zeroB Tryz.prog 221 = some [Value.nilFunc] := by kernel_rfl
theorem ze25 : zeroB Tryz.prog 25 = some [Value.slice none 0 0, Value.slice none 0 0] := by kernel_rfl
theorem ze28 : zeroB Tryz.prog 28 = some [Value.int .i64 0, Value.int .i64 0, Value.slice none 0 0] := by kernel_rfl
theorem ze3 : zeroB Tryz.prog 3 = some [Value.int .i64 0] := by kernel_rfl
theorem ze30 : zeroB Tryz.prog 30 = some [Value.int .i64 0, Value.int .i64 0, Value.int .i64 0, Value.int .i64 0, Value.int .i64 0, Value.int .i64 0] := by kernel_rfl
theorem ze4 : zeroB Tryz.prog 4 = some [Value.bool false] := by kernel_rfl
theorem ze44 : zeroB Tryz.prog 44 = some [Value.slice none 0 0] := by kernel_rfl
theorem ze46 : zeroB Tryz.prog 46 = some [Value.int .i64 0, Value.int .i64 0, Value.int .i64 0, Value.bool false] := by kernel_rfl
theorem ze5 : zeroB Tryz.prog 5 = some [Value.int .u8 0] := by kernel_rfl
theorem ze50 : zeroB Tryz.prog 50 = some [Value.string (⟨#[]⟩ : ByteArray), Value.int .i64 0, Value.int .i64 0, Value.int .i64 0, Value.int .i64 0] := by kernel_rfl
theorem ze53 : zeroB Tryz.prog 53 = some [Value.int .i64 0, Value.int .i64 0] := by kernel_rfl
theorem ze57 : zeroB Tryz.prog 57 = some [Value.int .i64 0, Value.int .i64 0, Value.int .i64 0, Value.int .i64 0, Value.int .i64 0] := by kernel_rfl
theorem ze77 : zeroB Tryz.prog 77 = some [Value.slice none 0 0] := by kernel_rfl
theorem ze79 : zeroB Tryz.prog 79 = some [Value.string (⟨#[]⟩ : ByteArray), Value.slice none 0 0, Value.nilFunc] := by kernel_rfl
theorem ze97 : zeroB Tryz.prog 97 = some [Value.slice none 0 0, Value.slice none 0 0, Value.int .i64 0, Value.int .i64 0, Value.slice none 0 0, Value.string (⟨#[]⟩ : ByteArray), Value.int .i64 0, Value.int .i64 0, Value.int .i64 0, Value.int .i64 0, Value.int .i64 0, Value.slice none 0 0] := by kernel_rfl
theorem zv4 : zeroV Tryz.prog 4 = some (Value.bool false) := by kernel_rfl
def k_api_Seen : Kd api_Seen := Kd.iso (Kd.pair Kd.str (Kd.pair (Kd.int .i64) (Kd.pair (Kd.int .i64) (Kd.pair (Kd.int .i64) (Kd.int .i64))))) (fun x => (x.Text, x.X, x.Y, x.W, x.H))
theorem open_api_Seen {G : Gh} {x : api_Seen} {cs : List Value} (h : k_api_Seen.K G x cs) : cs = [Value.string x.Text, Value.int .i64 x.X, Value.int .i64 x.Y, Value.int .i64 x.W, Value.int .i64 x.H] := by
 obtain ⟨_, _, rfl, rfl, ⟨_, _, rfl, rfl, ⟨_, _, rfl, rfl, ⟨_, _, rfl, rfl, rfl⟩⟩⟩⟩ := h
 exact rfl
theorem mk_api_Seen {G : Gh} {x : api_Seen} : k_api_Seen.K G x [Value.string x.Text, Value.int .i64 x.X, Value.int .i64 x.Y, Value.int .i64 x.W, Value.int .i64 x.H] := ⟨[Value.string x.Text], [Value.int .i64 x.X, Value.int .i64 x.Y, Value.int .i64 x.W, Value.int .i64 x.H], rfl, rfl, ⟨[Value.int .i64 x.X], [Value.int .i64 x.Y, Value.int .i64 x.W, Value.int .i64 x.H], rfl, rfl, ⟨[Value.int .i64 x.Y], [Value.int .i64 x.W, Value.int .i64 x.H], rfl, rfl, ⟨[Value.int .i64 x.W], [Value.int .i64 x.H], rfl, rfl, rfl⟩⟩⟩⟩
theorem eqg_api_Seen : Tryz.prog.eqGuardType Tryz.prog.depth 50 = false := by kernel_rfl
theorem eqs_api_Seen (x y : api_Seen) : eqDeep Tryz.prog 10000 50 [Value.string x.Text, Value.int .i64 x.X, Value.int .i64 x.Y, Value.int .i64 x.W, Value.int .i64 x.H] [Value.string y.Text, Value.int .i64 y.X, Value.int .i64 y.Y, Value.int .i64 y.W, Value.int .i64 y.H] = some (decide (x.Text = y.Text) && (decide (x.X = y.X) && (decide (x.Y = y.Y) && (decide (x.W = y.W) && (decide (x.H = y.H) && true))))) := by kernel_rfl
theorem eqd_api_Seen (x y : api_Seen) : (decide (x.Text = y.Text) && (decide (x.X = y.X) && (decide (x.Y = y.Y) && (decide (x.W = y.W) && (decide (x.H = y.H) && true))))) = decide (x = y) := by
 rcases x with ⟨_, _, _, _, _⟩
 rcases y with ⟨_, _, _, _, _⟩
 simp
def k_api_Glyph : Kd api_Glyph := Kd.iso (Kd.pair (Kd.int .u8) (Kd.int .i64)) (fun x => (x.Byte, x.Advance))
theorem open_api_Glyph {G : Gh} {x : api_Glyph} {cs : List Value} (h : k_api_Glyph.K G x cs) : cs = [Value.int .u8 x.Byte, Value.int .i64 x.Advance] := by
 obtain ⟨_, _, rfl, rfl, rfl⟩ := h
 exact rfl
theorem mk_api_Glyph {G : Gh} {x : api_Glyph} : k_api_Glyph.K G x [Value.int .u8 x.Byte, Value.int .i64 x.Advance] := ⟨[Value.int .u8 x.Byte], [Value.int .i64 x.Advance], rfl, rfl, rfl⟩
def k_api_Kern : Kd api_Kern := Kd.iso (Kd.pair (Kd.int .u8) (Kd.pair (Kd.int .u8) (Kd.int .i64))) (fun x => (x.Left, x.Right, x.By))
theorem open_api_Kern {G : Gh} {x : api_Kern} {cs : List Value} (h : k_api_Kern.K G x cs) : cs = [Value.int .u8 x.Left, Value.int .u8 x.Right, Value.int .i64 x.By] := by
 obtain ⟨_, _, rfl, rfl, ⟨_, _, rfl, rfl, rfl⟩⟩ := h
 exact rfl
def k_api_Font : Kd api_Font := Kd.iso (Kd.pair (Kd.slice k_api_Glyph) (Kd.slice k_api_Kern)) (fun x => (x.Glyphs, x.Kerns))
theorem open_api_Font {G : Gh} {x : api_Font} {cs : List Value} (h : k_api_Font.K G x cs) : ∃ (A1 : Option Addr) (c2 : Nat), x.Glyphs.length ≤ c2 ∧ Dat k_api_Glyph G A1 x.Glyphs ∧ ∃ (A5 : Option Addr) (c6 : Nat), x.Kerns.length ≤ c6 ∧ Dat k_api_Kern G A5 x.Kerns ∧ cs = [Value.slice A1 x.Glyphs.length c2, Value.slice A5 x.Kerns.length c6] := by
 obtain ⟨_, _, rfl, ⟨A1, c2, rfl, hl3, hD4⟩, ⟨A5, c6, rfl, hl7, hD8⟩⟩ := h
 exact ⟨A1, c2, hl3, hD4, ⟨A5, c6, hl7, hD8, rfl⟩⟩
def k_font_pair : Kd font_pair := Kd.iso (Kd.pair (Kd.int .u8) (Kd.int .u8)) (fun x => (x.left, x.right))
theorem open_font_pair {G : Gh} {x : font_pair} {cs : List Value} (h : k_font_pair.K G x cs) : cs = [Value.int .u8 x.left, Value.int .u8 x.right] := by
 obtain ⟨_, _, rfl, rfl, rfl⟩ := h
 exact rfl
theorem mk_font_pair {G : Gh} {x : font_pair} : k_font_pair.K G x [Value.int .u8 x.left, Value.int .u8 x.right] := ⟨[Value.int .u8 x.left], [Value.int .u8 x.right], rfl, rfl, rfl⟩
def k_api_Breaks : Kd api_Breaks := Kd.iso (Kd.pair (Kd.int .i64) (Kd.pair (Kd.int .i64) (Kd.slice Kd.str))) (fun x => (x.Before, x.Behind, x.Keep))
theorem open_api_Breaks {G : Gh} {x : api_Breaks} {cs : List Value} (h : k_api_Breaks.K G x cs) : ∃ (A1 : Option Addr) (c2 : Nat), x.Keep.length ≤ c2 ∧ Dat Kd.str G A1 x.Keep ∧ cs = [Value.int .i64 x.Before, Value.int .i64 x.Behind, Value.slice A1 x.Keep.length c2] := by
 obtain ⟨_, _, rfl, rfl, ⟨_, _, rfl, rfl, ⟨A1, c2, rfl, hl3, hD4⟩⟩⟩ := h
 exact ⟨A1, c2, hl3, hD4, rfl⟩
def k_api_Break : Kd api_Break := Kd.iso (Kd.pair (Kd.int .i64) Kd.bool) (fun x => (x.At, x.Hyphen))
theorem open_api_Break {G : Gh} {x : api_Break} {cs : List Value} (h : k_api_Break.K G x cs) : cs = [Value.int .i64 x.At, Value.bool x.Hyphen] := by
 obtain ⟨_, _, rfl, rfl, rfl⟩ := h
 exact rfl
theorem mk_api_Break {G : Gh} {x : api_Break} : k_api_Break.K G x [Value.int .i64 x.At, Value.bool x.Hyphen] := ⟨[Value.int .i64 x.At], [Value.bool x.Hyphen], rfl, rfl, rfl⟩
def k_api_Line : Kd api_Line := Kd.iso (Kd.pair (Kd.int .i64) (Kd.pair (Kd.int .i64) (Kd.pair (Kd.int .i64) Kd.bool))) (fun x => (x.From, x.Until, x.Width, x.Hyphen))
theorem open_api_Line {G : Gh} {x : api_Line} {cs : List Value} (h : k_api_Line.K G x cs) : cs = [Value.int .i64 x.From, Value.int .i64 x.Until, Value.int .i64 x.Width, Value.bool x.Hyphen] := by
 obtain ⟨_, _, rfl, rfl, ⟨_, _, rfl, rfl, ⟨_, _, rfl, rfl, rfl⟩⟩⟩ := h
 exact rfl
theorem mk_api_Line {G : Gh} {x : api_Line} : k_api_Line.K G x [Value.int .i64 x.From, Value.int .i64 x.Until, Value.int .i64 x.Width, Value.bool x.Hyphen] := ⟨[Value.int .i64 x.From], [Value.int .i64 x.Until, Value.int .i64 x.Width, Value.bool x.Hyphen], rfl, rfl, ⟨[Value.int .i64 x.Until], [Value.int .i64 x.Width, Value.bool x.Hyphen], rfl, rfl, ⟨[Value.int .i64 x.Width], [Value.bool x.Hyphen], rfl, rfl, rfl⟩⟩⟩
def k_api_Float : Kd api_Float := Kd.iso (Kd.pair (Kd.int .i64) (Kd.pair (Kd.int .i64) (Kd.pair (Kd.int .i64) (Kd.pair (Kd.int .i64) (Kd.int .i64))))) (fun x => (x.Side, x.X, x.Y, x.W, x.H))
theorem open_api_Float {G : Gh} {x : api_Float} {cs : List Value} (h : k_api_Float.K G x cs) : cs = [Value.int .i64 x.Side, Value.int .i64 x.X, Value.int .i64 x.Y, Value.int .i64 x.W, Value.int .i64 x.H] := by
 obtain ⟨_, _, rfl, rfl, ⟨_, _, rfl, rfl, ⟨_, _, rfl, rfl, ⟨_, _, rfl, rfl, rfl⟩⟩⟩⟩ := h
 exact rfl
theorem mk_api_Float {G : Gh} {x : api_Float} : k_api_Float.K G x [Value.int .i64 x.Side, Value.int .i64 x.X, Value.int .i64 x.Y, Value.int .i64 x.W, Value.int .i64 x.H] := ⟨[Value.int .i64 x.Side], [Value.int .i64 x.X, Value.int .i64 x.Y, Value.int .i64 x.W, Value.int .i64 x.H], rfl, rfl, ⟨[Value.int .i64 x.X], [Value.int .i64 x.Y, Value.int .i64 x.W, Value.int .i64 x.H], rfl, rfl, ⟨[Value.int .i64 x.Y], [Value.int .i64 x.W, Value.int .i64 x.H], rfl, rfl, ⟨[Value.int .i64 x.W], [Value.int .i64 x.H], rfl, rfl, rfl⟩⟩⟩⟩
def k_formelaw21_Set : Kd formelaw21_Set := Kd.iso (Kd.pair (Kd.int .i64) (Kd.pair (Kd.int .i64) (Kd.pair (Kd.int .i64) (Kd.pair (Kd.int .i64) (Kd.pair (Kd.int .i64) (Kd.int .i64)))))) (fun x => (x.Scale, x.Line, x.Align, x.Dir, x.Width, x.Y))
theorem open_formelaw21_Set {G : Gh} {x : formelaw21_Set} {cs : List Value} (h : k_formelaw21_Set.K G x cs) : cs = [Value.int .i64 x.Scale, Value.int .i64 x.Line, Value.int .i64 x.Align, Value.int .i64 x.Dir, Value.int .i64 x.Width, Value.int .i64 x.Y] := by
 obtain ⟨_, _, rfl, rfl, ⟨_, _, rfl, rfl, ⟨_, _, rfl, rfl, ⟨_, _, rfl, rfl, ⟨_, _, rfl, rfl, rfl⟩⟩⟩⟩⟩ := h
 exact rfl
end Go.Proofs.YtaemgcpcfnbmdaaGreatDoor.LG
