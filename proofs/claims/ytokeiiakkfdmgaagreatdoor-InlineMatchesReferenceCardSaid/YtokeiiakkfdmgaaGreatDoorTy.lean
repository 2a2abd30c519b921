/-
 Closed facts of the program's types, and how each struct lies in memory: printed by a program out of the translation.
-/
import Derived.Test.YtokeiiakkfdmgaaGreatDoorProg
import Derived.KernelRfl
import Derived.Test.YtokeiiakkfdmgaaGreatDoorLgW
import Derived.Test.YtokeiiakkfdmgaaGreatDoorPd
set_option linter.unusedVariables false
set_option linter.unusedSimpArgs false
set_option maxRecDepth 100000
namespace Go.Proofs.YtokeiiakkfdmgaaGreatDoor.LG
open Go Go.LG Go.RowKit Go.Value
theorem ag114 : aggB Tryz.prog 114 = some (true, 3) := by kernel_rfl
theorem ag119 : aggB Tryz.prog 119 = some (true, 2) := by kernel_rfl
theorem ag124 : aggB Tryz.prog 124 = some (false, 1) := by kernel_rfl
theorem ag126 : aggB Tryz.prog 126 = some (false, 1) := by kernel_rfl
theorem ag174 : aggB Tryz.prog 174 = some (true, 4) := by kernel_rfl
theorem ag184 : aggB Tryz.prog 184 = some (false, 1) := by kernel_rfl
theorem ag22 : aggB Tryz.prog 22 = some (false, 1) := by kernel_rfl
theorem ag23 : aggB Tryz.prog 23 = some (false, 1) := by kernel_rfl
theorem ag25 : aggB Tryz.prog 25 = some (true, 2) := by kernel_rfl
theorem ag26 : aggB Tryz.prog 26 = some (false, 1) := by kernel_rfl
theorem ag28 : aggB Tryz.prog 28 = some (true, 3) := by kernel_rfl
theorem ag29 : aggB Tryz.prog 29 = some (false, 1) := by kernel_rfl
theorem ag3 : aggB Tryz.prog 3 = some (false, 1) := by kernel_rfl
theorem ag31 : aggB Tryz.prog 31 = some (true, 4) := by kernel_rfl
theorem ag37 : aggB Tryz.prog 37 = some (false, 1) := by kernel_rfl
theorem ag4 : aggB Tryz.prog 4 = some (false, 1) := by kernel_rfl
theorem ag45 : aggB Tryz.prog 45 = some (false, 1) := by kernel_rfl
theorem ag5 : aggB Tryz.prog 5 = some (false, 1) := by kernel_rfl
theorem ag51 : aggB Tryz.prog 51 = some (true, 2) := by kernel_rfl
theorem ag66 : aggB Tryz.prog 66 = some (false, 1) := by kernel_rfl
theorem ag68 : aggB Tryz.prog 68 = some (true, 3) := by kernel_rfl
theorem ag72 : aggB Tryz.prog 72 = some (false, 1) := by kernel_rfl
theorem ag86 : aggB Tryz.prog 86 = some (false, 1) := by kernel_rfl
theorem ag88 : aggB Tryz.prog 88 = some (true, 5) := by kernel_rfl
theorem ag9 : aggB Tryz.prog 9 = some (false, 1) := by kernel_rfl
theorem ag98 : aggB Tryz.prog 98 = some (true, 2) := by kernel_rfl
theorem ar173 : arrB Tryz.prog 173 = some (2, 3, 1) := by kernel_rfl
theorem ar174 : arrB Tryz.prog 174 = some (2, 173, 2) := by kernel_rfl
theorem bo10 : bodyB Tryz.prog 10 = true := by kernel_rfl
theorem bo100 : bodyB Tryz.prog 100 = true := by kernel_rfl
theorem bo101 : bodyB Tryz.prog 101 = true := by kernel_rfl
theorem bo102 : bodyB Tryz.prog 102 = true := by kernel_rfl
theorem bo103 : bodyB Tryz.prog 103 = true := by kernel_rfl
theorem bo104 : bodyB Tryz.prog 104 = true := by kernel_rfl
theorem bo105 : bodyB Tryz.prog 105 = true := by kernel_rfl
theorem bo106 : bodyB Tryz.prog 106 = true := by kernel_rfl
theorem bo107 : bodyB Tryz.prog 107 = true := by kernel_rfl
theorem bo108 : bodyB Tryz.prog 108 = true := by kernel_rfl
theorem bo109 : bodyB Tryz.prog 109 = true := by kernel_rfl
theorem bo11 : bodyB Tryz.prog 11 = true := by kernel_rfl
theorem bo110 : bodyB Tryz.prog 110 = true := by kernel_rfl
theorem bo111 : bodyB Tryz.prog 111 = true := by kernel_rfl
theorem bo112 : bodyB Tryz.prog 112 = true := by kernel_rfl
theorem bo113 : bodyB Tryz.prog 113 = true := by kernel_rfl
theorem bo114 : bodyB Tryz.prog 114 = true := by kernel_rfl
theorem bo115 : bodyB Tryz.prog 115 = true := by kernel_rfl
theorem bo116 : bodyB Tryz.prog 116 = true := by kernel_rfl
theorem bo117 : bodyB Tryz.prog 117 = true := by kernel_rfl
theorem bo12 : bodyB Tryz.prog 12 = true := by kernel_rfl
theorem bo127 : bodyB Tryz.prog 127 = true := by kernel_rfl
theorem bo128 : bodyB Tryz.prog 128 = true := by kernel_rfl
theorem bo129 : bodyB Tryz.prog 129 = true := by kernel_rfl
theorem bo13 : bodyB Tryz.prog 13 = true := by kernel_rfl
theorem bo130 : bodyB Tryz.prog 130 = true := by kernel_rfl
theorem bo131 : bodyB Tryz.prog 131 = true := by kernel_rfl
theorem bo132 : bodyB Tryz.prog 132 = true := by kernel_rfl
theorem bo133 : bodyB Tryz.prog 133 = true := by kernel_rfl
theorem bo134 : bodyB Tryz.prog 134 = true := by kernel_rfl
theorem bo135 : bodyB Tryz.prog 135 = true := by kernel_rfl
theorem bo14 : bodyB Tryz.prog 14 = true := by kernel_rfl
theorem bo144 : bodyB Tryz.prog 144 = true := by kernel_rfl
theorem bo145 : bodyB Tryz.prog 145 = true := by kernel_rfl
theorem bo146 : bodyB Tryz.prog 146 = true := by kernel_rfl
theorem bo147 : bodyB Tryz.prog 147 = true := by kernel_rfl
theorem bo148 : bodyB Tryz.prog 148 = true := by kernel_rfl
theorem bo149 : bodyB Tryz.prog 149 = true := by kernel_rfl
theorem bo15 : bodyB Tryz.prog 15 = true := by kernel_rfl
theorem bo158 : bodyB Tryz.prog 158 = true := by kernel_rfl
theorem bo16 : bodyB Tryz.prog 16 = true := by kernel_rfl
theorem bo17 : bodyB Tryz.prog 17 = true := by kernel_rfl
theorem bo19 : bodyB Tryz.prog 19 = true := by kernel_rfl
theorem bo20 : bodyB Tryz.prog 20 = true := by kernel_rfl
theorem bo21 : bodyB Tryz.prog 21 = true := by kernel_rfl
theorem bo22 : bodyB Tryz.prog 22 = true := by kernel_rfl
theorem bo23 : bodyB Tryz.prog 23 = true := by kernel_rfl
theorem bo24 : bodyB Tryz.prog 24 = true := by kernel_rfl
theorem bo25 : bodyB Tryz.prog 25 = true := by kernel_rfl
theorem bo26 : bodyB Tryz.prog 26 = true := by kernel_rfl
theorem bo27 : bodyB Tryz.prog 27 = true := by kernel_rfl
theorem bo28 : bodyB Tryz.prog 28 = true := by kernel_rfl
theorem bo29 : bodyB Tryz.prog 29 = true := by kernel_rfl
theorem bo30 : bodyB Tryz.prog 30 = true := by kernel_rfl
theorem bo31 : bodyB Tryz.prog 31 = true := by kernel_rfl
theorem bo32 : bodyB Tryz.prog 32 = true := by kernel_rfl
theorem bo33 : bodyB Tryz.prog 33 = true := by kernel_rfl
theorem bo34 : bodyB Tryz.prog 34 = true := by kernel_rfl
theorem bo35 : bodyB Tryz.prog 35 = true := by kernel_rfl
theorem bo36 : bodyB Tryz.prog 36 = true := by kernel_rfl
theorem bo37 : bodyB Tryz.prog 37 = true := by kernel_rfl
theorem bo38 : bodyB Tryz.prog 38 = true := by kernel_rfl
theorem bo39 : bodyB Tryz.prog 39 = true := by kernel_rfl
theorem bo40 : bodyB Tryz.prog 40 = true := by kernel_rfl
theorem bo41 : bodyB Tryz.prog 41 = true := by kernel_rfl
theorem bo42 : bodyB Tryz.prog 42 = true := by kernel_rfl
theorem bo43 : bodyB Tryz.prog 43 = true := by kernel_rfl
theorem bo44 : bodyB Tryz.prog 44 = true := by kernel_rfl
theorem bo45 : bodyB Tryz.prog 45 = true := by kernel_rfl
theorem bo46 : bodyB Tryz.prog 46 = true := by kernel_rfl
theorem bo47 : bodyB Tryz.prog 47 = true := by kernel_rfl
theorem bo48 : bodyB Tryz.prog 48 = true := by kernel_rfl
theorem bo49 : bodyB Tryz.prog 49 = true := by kernel_rfl
theorem bo50 : bodyB Tryz.prog 50 = true := by kernel_rfl
theorem bo51 : bodyB Tryz.prog 51 = true := by kernel_rfl
theorem bo52 : bodyB Tryz.prog 52 = true := by kernel_rfl
theorem bo53 : bodyB Tryz.prog 53 = true := by kernel_rfl
theorem bo54 : bodyB Tryz.prog 54 = true := by kernel_rfl
theorem bo55 : bodyB Tryz.prog 55 = true := by kernel_rfl
theorem bo56 : bodyB Tryz.prog 56 = true := by kernel_rfl
theorem bo57 : bodyB Tryz.prog 57 = true := by kernel_rfl
theorem bo58 : bodyB Tryz.prog 58 = true := by kernel_rfl
theorem bo59 : bodyB Tryz.prog 59 = true := by kernel_rfl
theorem bo60 : bodyB Tryz.prog 60 = true := by kernel_rfl
theorem bo61 : bodyB Tryz.prog 61 = true := by kernel_rfl
theorem bo62 : bodyB Tryz.prog 62 = true := by kernel_rfl
theorem bo63 : bodyB Tryz.prog 63 = true := by kernel_rfl
theorem bo64 : bodyB Tryz.prog 64 = true := by kernel_rfl
theorem bo65 : bodyB Tryz.prog 65 = true := by kernel_rfl
theorem bo66 : bodyB Tryz.prog 66 = true := by kernel_rfl
theorem bo67 : bodyB Tryz.prog 67 = true := by kernel_rfl
theorem bo68 : bodyB Tryz.prog 68 = true := by kernel_rfl
theorem bo69 : bodyB Tryz.prog 69 = true := by kernel_rfl
theorem bo70 : bodyB Tryz.prog 70 = true := by kernel_rfl
theorem bo71 : bodyB Tryz.prog 71 = true := by kernel_rfl
theorem bo72 : bodyB Tryz.prog 72 = true := by kernel_rfl
theorem bo73 : bodyB Tryz.prog 73 = true := by kernel_rfl
theorem bo74 : bodyB Tryz.prog 74 = true := by kernel_rfl
theorem bo75 : bodyB Tryz.prog 75 = true := by kernel_rfl
theorem bo76 : bodyB Tryz.prog 76 = true := by kernel_rfl
theorem bo77 : bodyB Tryz.prog 77 = true := by kernel_rfl
theorem bo78 : bodyB Tryz.prog 78 = true := by kernel_rfl
theorem bo79 : bodyB Tryz.prog 79 = true := by kernel_rfl
theorem bo80 : bodyB Tryz.prog 80 = true := by kernel_rfl
theorem bo81 : bodyB Tryz.prog 81 = true := by kernel_rfl
theorem bo82 : bodyB Tryz.prog 82 = true := by kernel_rfl
theorem bo83 : bodyB Tryz.prog 83 = true := by kernel_rfl
theorem bo84 : bodyB Tryz.prog 84 = true := by kernel_rfl
theorem bo85 : bodyB Tryz.prog 85 = true := by kernel_rfl
theorem bo86 : bodyB Tryz.prog 86 = true := by kernel_rfl
theorem bo87 : bodyB Tryz.prog 87 = true := by kernel_rfl
theorem bo88 : bodyB Tryz.prog 88 = true := by kernel_rfl
theorem bo89 : bodyB Tryz.prog 89 = true := by kernel_rfl
theorem bo9 : bodyB Tryz.prog 9 = true := by kernel_rfl
theorem bo90 : bodyB Tryz.prog 90 = true := by kernel_rfl
theorem bo91 : bodyB Tryz.prog 91 = true := by kernel_rfl
theorem el124 : elemB Tryz.prog 124 = some (5, 1, 1) := by kernel_rfl
theorem el22 : elemB Tryz.prog 22 = some (98, 2, 16) := by kernel_rfl
theorem el23 : elemB Tryz.prog 23 = some (114, 3, 16) := by kernel_rfl
theorem el26 : elemB Tryz.prog 26 = some (9, 1, 16) := by kernel_rfl
theorem el29 : elemB Tryz.prog 29 = some (3, 1, 8) := by kernel_rfl
theorem el37 : elemB Tryz.prog 37 = some (31, 4, 32) := by kernel_rfl
theorem el45 : elemB Tryz.prog 45 = some (51, 2, 16) := by kernel_rfl
theorem fl114_0 : fieldB Tryz.prog 114 0 = some (0, 1) := by kernel_rfl
theorem fl114_1 : fieldB Tryz.prog 114 1 = some (1, 1) := by kernel_rfl
theorem fl114_2 : fieldB Tryz.prog 114 2 = some (2, 1) := by kernel_rfl
theorem fl119_0 : fieldB Tryz.prog 119 0 = some (0, 1) := by kernel_rfl
theorem fl119_1 : fieldB Tryz.prog 119 1 = some (1, 1) := by kernel_rfl
theorem fl25_0 : fieldB Tryz.prog 25 0 = some (0, 1) := by kernel_rfl
theorem fl25_1 : fieldB Tryz.prog 25 1 = some (1, 1) := by kernel_rfl
theorem fl28_0 : fieldB Tryz.prog 28 0 = some (0, 1) := by kernel_rfl
theorem fl28_1 : fieldB Tryz.prog 28 1 = some (1, 1) := by kernel_rfl
theorem fl28_2 : fieldB Tryz.prog 28 2 = some (2, 1) := by kernel_rfl
theorem fl31_0 : fieldB Tryz.prog 31 0 = some (0, 1) := by kernel_rfl
theorem fl31_1 : fieldB Tryz.prog 31 1 = some (1, 1) := by kernel_rfl
theorem fl31_2 : fieldB Tryz.prog 31 2 = some (2, 1) := by kernel_rfl
theorem fl31_3 : fieldB Tryz.prog 31 3 = some (3, 1) := by kernel_rfl
theorem fl51_0 : fieldB Tryz.prog 51 0 = some (0, 1) := by kernel_rfl
theorem fl51_1 : fieldB Tryz.prog 51 1 = some (1, 1) := by kernel_rfl
theorem fl68_0 : fieldB Tryz.prog 68 0 = some (0, 1) := by kernel_rfl
theorem fl68_1 : fieldB Tryz.prog 68 1 = some (1, 1) := by kernel_rfl
theorem fl68_2 : fieldB Tryz.prog 68 2 = some (2, 1) := by kernel_rfl
theorem fl88_0 : fieldB Tryz.prog 88 0 = some (0, 3) := by kernel_rfl
theorem fl88_1 : fieldB Tryz.prog 88 1 = some (3, 1) := by kernel_rfl
theorem fl88_2 : fieldB Tryz.prog 88 2 = some (4, 1) := by kernel_rfl
theorem fl98_0 : fieldB Tryz.prog 98 0 = some (0, 1) := by kernel_rfl
theorem fl98_1 : fieldB Tryz.prog 98 1 = some (1, 1) := by kernel_rfl
theorem ik21 : intKB Tryz.prog 21 = some .i32 := by kernel_rfl
theorem ik3 : intKB Tryz.prog 3 = some .i64 := by kernel_rfl
theorem ik5 : intKB Tryz.prog 5 = some .u8 := by kernel_rfl
theorem ik83 : intKB Tryz.prog 83 = some .u64 := by kernel_rfl
theorem mixo : Tryz.prog.follows .mixedOrders = true := by kernel_rfl
theorem mt86 : mapB Tryz.prog 86 = some (9, 4) := by kernel_rfl
theorem pl119 : placesB Tryz.prog 119 = some [(0, 1), (1, 1)] := by kernel_rfl
theorem pl25 : placesB Tryz.prog 25 = some [(0, 1), (1, 1)] := by kernel_rfl
theorem pl28 : placesB Tryz.prog 28 = some [(0, 1), (1, 1), (2, 1)] := by kernel_rfl
theorem pl31 : placesB Tryz.prog 31 = some [(0, 1), (1, 1), (2, 1), (3, 1)] := by kernel_rfl
theorem pl51 : placesB Tryz.prog 51 = some [(0, 1), (1, 1)] := by kernel_rfl
theorem pl68 : placesB Tryz.prog 68 = some [(0, 1), (1, 1), (2, 1)] := by kernel_rfl
theorem pl88 : placesB Tryz.prog 88 = some [(0, 3), (3, 1), (4, 1)] := by kernel_rfl
theorem pl98 : placesB Tryz.prog 98 = some [(0, 1), (1, 1)] := by kernel_rfl
theorem so124 : sortB Tryz.prog 124 = some 1 := by kernel_rfl
theorem so22 : sortB Tryz.prog 22 = some 1 := by kernel_rfl
theorem so23 : sortB Tryz.prog 23 = some 1 := by kernel_rfl
theorem so26 : sortB Tryz.prog 26 = some 1 := by kernel_rfl
theorem so29 : sortB Tryz.prog 29 = some 1 := by kernel_rfl
theorem so37 : sortB Tryz.prog 37 = some 1 := by kernel_rfl
theorem so45 : sortB Tryz.prog 45 = some 1 := by kernel_rfl
theorem so9 : sortB Tryz.prog 9 = some 0 := by kernel_rfl
theorem ze114 : zeroB Tryz.prog 114 = some [Value.int .u8 0, Value.int .u8 0, Value.int .i64 0] := by kernel_rfl
theorem ze119 : zeroB Tryz.prog 119 = some [Value.int .u8 0, Value.int .u8 0] := by kernel_rfl
theorem ze173 : zeroB Tryz.prog 173 = some [Value.int .i64 0, Value.int .i64 0] := by kernel_rfl
theorem ze174 : zeroB Tryz.prog 174 = some [Value.int .i64 0, Value.int .i64 0, Value.int .i64 0, Value.int .i64 0] := by kernel_rfl
theorem ze184 : zeroB Tryz.prog 184 = some [Value.nilFunc] := by kernel_rfl
theorem ze25 : zeroB Tryz.prog 25 = some [Value.slice none 0 0, Value.slice none 0 0] := by kernel_rfl
theorem ze28 : zeroB Tryz.prog 28 = some [Value.int .i64 0, Value.int .i64 0, Value.slice none 0 0] := by kernel_rfl
theorem ze29 : zeroB Tryz.prog 29 = some [Value.slice none 0 0] := by kernel_rfl
theorem ze3 : zeroB Tryz.prog 3 = some [Value.int .i64 0] := by kernel_rfl
theorem ze31 : zeroB Tryz.prog 31 = some [Value.int .i64 0, Value.int .i64 0, Value.int .i64 0, Value.bool false] := by kernel_rfl
theorem ze45 : zeroB Tryz.prog 45 = some [Value.slice none 0 0] := by kernel_rfl
theorem ze5 : zeroB Tryz.prog 5 = some [Value.int .u8 0] := by kernel_rfl
theorem ze51 : zeroB Tryz.prog 51 = some [Value.int .i64 0, Value.bool false] := by kernel_rfl
theorem ze68 : zeroB Tryz.prog 68 = some [Value.string (⟨#[]⟩ : ByteArray), Value.slice none 0 0, Value.nilFunc] := by kernel_rfl
theorem ze88 : zeroB Tryz.prog 88 = some [Value.int .i64 0, Value.int .i64 0, Value.slice none 0 0, Value.string (⟨#[]⟩ : ByteArray), Value.map none] := by kernel_rfl
theorem ze98 : zeroB Tryz.prog 98 = some [Value.int .u8 0, Value.int .i64 0] := by kernel_rfl
theorem zv4 : zeroV Tryz.prog 4 = some (Value.bool false) := by kernel_rfl
def k_api_Breaks : Kd api_Breaks := Kd.iso (Kd.pair (Kd.int .i64) (Kd.pair (Kd.int .i64) (Kd.slice Kd.str))) (fun x => (x.Before, x.Behind, x.Keep))
theorem open_api_Breaks {G : Gh} {x : api_Breaks} {cs : List Value} (h : k_api_Breaks.K G x cs) : ∃ (A1 : Option Addr) (c2 : Nat), x.Keep.length ≤ c2 ∧ Dat Kd.str G A1 x.Keep ∧ cs = [Value.int .i64 x.Before, Value.int .i64 x.Behind, Value.slice A1 x.Keep.length c2] := by
 obtain ⟨_, _, rfl, rfl, ⟨_, _, rfl, rfl, ⟨A1, c2, rfl, hl3, hD4⟩⟩⟩ := h
 exact ⟨A1, c2, hl3, hD4, rfl⟩
def k_api_Break : Kd api_Break := Kd.iso (Kd.pair (Kd.int .i64) Kd.bool) (fun x => (x.At, x.Hyphen))
theorem open_api_Break {G : Gh} {x : api_Break} {cs : List Value} (h : k_api_Break.K G x cs) : cs = [Value.int .i64 x.At, Value.bool x.Hyphen] := by
 obtain ⟨_, _, rfl, rfl, rfl⟩ := h
 exact rfl
theorem mk_api_Break {G : Gh} {x : api_Break} : k_api_Break.K G x [Value.int .i64 x.At, Value.bool x.Hyphen] := ⟨[Value.int .i64 x.At], [Value.bool x.Hyphen], rfl, rfl, rfl⟩
def k_api_Glyph : Kd api_Glyph := Kd.iso (Kd.pair (Kd.int .u8) (Kd.int .i64)) (fun x => (x.Byte, x.Advance))
theorem open_api_Glyph {G : Gh} {x : api_Glyph} {cs : List Value} (h : k_api_Glyph.K G x cs) : cs = [Value.int .u8 x.Byte, Value.int .i64 x.Advance] := by
 obtain ⟨_, _, rfl, rfl, rfl⟩ := h
 exact rfl
theorem mk_api_Glyph {G : Gh} {x : api_Glyph} : k_api_Glyph.K G x [Value.int .u8 x.Byte, Value.int .i64 x.Advance] := ⟨[Value.int .u8 x.Byte], [Value.int .i64 x.Advance], rfl, rfl, rfl⟩
def k_api_Kern : Kd api_Kern := Kd.iso (Kd.pair (Kd.int .u8) (Kd.pair (Kd.int .u8) (Kd.int .i64))) (fun x => (x.Left, x.Right, x.By))
theorem open_api_Kern {G : Gh} {x : api_Kern} {cs : List Value} (h : k_api_Kern.K G x cs) : cs = [Value.int .u8 x.Left, Value.int .u8 x.Right, Value.int .i64 x.By] := by
 obtain ⟨_, _, rfl, rfl, ⟨_, _, rfl, rfl, rfl⟩⟩ := h
 exact rfl
def k_api_Font : Kd api_Font := Kd.iso (Kd.pair (Kd.slice k_api_Glyph) (Kd.slice k_api_Kern)) (fun x => (x.Glyphs, x.Kerns))
theorem open_api_Font {G : Gh} {x : api_Font} {cs : List Value} (h : k_api_Font.K G x cs) : ∃ (A1 : Option Addr) (c2 : Nat), x.Glyphs.length ≤ c2 ∧ Dat k_api_Glyph G A1 x.Glyphs ∧ ∃ (A5 : Option Addr) (c6 : Nat), x.Kerns.length ≤ c6 ∧ Dat k_api_Kern G A5 x.Kerns ∧ cs = [Value.slice A1 x.Glyphs.length c2, Value.slice A5 x.Kerns.length c6] := by
 obtain ⟨_, _, rfl, ⟨A1, c2, rfl, hl3, hD4⟩, ⟨A5, c6, rfl, hl7, hD8⟩⟩ := h
 exact ⟨A1, c2, hl3, hD4, ⟨A5, c6, hl7, hD8, rfl⟩⟩
def k_font_pair : Kd font_pair := Kd.iso (Kd.pair (Kd.int .u8) (Kd.int .u8)) (fun x => (x.left, x.right))
theorem open_font_pair {G : Gh} {x : font_pair} {cs : List Value} (h : k_font_pair.K G x cs) : cs = [Value.int .u8 x.left, Value.int .u8 x.right] := by
 obtain ⟨_, _, rfl, rfl, rfl⟩ := h
 exact rfl
theorem mk_font_pair {G : Gh} {x : font_pair} : k_font_pair.K G x [Value.int .u8 x.left, Value.int .u8 x.right] := ⟨[Value.int .u8 x.left], [Value.int .u8 x.right], rfl, rfl, rfl⟩
def k_api_Line : Kd api_Line := Kd.iso (Kd.pair (Kd.int .i64) (Kd.pair (Kd.int .i64) (Kd.pair (Kd.int .i64) Kd.bool))) (fun x => (x.From, x.Until, x.Width, x.Hyphen))
theorem open_api_Line {G : Gh} {x : api_Line} {cs : List Value} (h : k_api_Line.K G x cs) : cs = [Value.int .i64 x.From, Value.int .i64 x.Until, Value.int .i64 x.Width, Value.bool x.Hyphen] := by
 obtain ⟨_, _, rfl, rfl, ⟨_, _, rfl, rfl, ⟨_, _, rfl, rfl, rfl⟩⟩⟩ := h
 exact rfl
theorem mk_api_Line {G : Gh} {x : api_Line} : k_api_Line.K G x [Value.int .i64 x.From, Value.int .i64 x.Until, Value.int .i64 x.Width, Value.bool x.Hyphen] := ⟨[Value.int .i64 x.From], [Value.int .i64 x.Until, Value.int .i64 x.Width, Value.bool x.Hyphen], rfl, rfl, ⟨[Value.int .i64 x.Until], [Value.int .i64 x.Width, Value.bool x.Hyphen], rfl, rfl, ⟨[Value.int .i64 x.Width], [Value.bool x.Hyphen], rfl, rfl, rfl⟩⟩⟩
theorem eqg_api_Line : Tryz.prog.eqGuardType Tryz.prog.depth 31 = false := by kernel_rfl
theorem eqs_api_Line (x y : api_Line) : eqDeep Tryz.prog 10000 31 [Value.int .i64 x.From, Value.int .i64 x.Until, Value.int .i64 x.Width, Value.bool x.Hyphen] [Value.int .i64 y.From, Value.int .i64 y.Until, Value.int .i64 y.Width, Value.bool y.Hyphen] = some (decide (x.From = y.From) && (decide (x.Until = y.Until) && (decide (x.Width = y.Width) && (decide (x.Hyphen = y.Hyphen) && true)))) := by kernel_rfl
theorem eqd_api_Line (x y : api_Line) : (decide (x.From = y.From) && (decide (x.Until = y.Until) && (decide (x.Width = y.Width) && (decide (x.Hyphen = y.Hyphen) && true)))) = decide (x = y) := by
 rcases x with ⟨_, _, _, _⟩
 rcases y with ⟨_, _, _, _⟩
 simp
end Go.Proofs.YtokeiiakkfdmgaaGreatDoor.LG
