/-
 Closed facts of the program's types, and how each struct lies in memory: printed by a program out of the translation.
-/
import Derived.Test.YtaemgcpcfnbmdaaGreatDoorProg
import Derived.KernelRfl
import Derived.Test.YtaemgcpcfnbmdaaGreatDoorLgW
import Derived.Test.YtaemgcpcfnbmdaaGreatDoorPd
set_option linter.unusedVariables false
set_option linter.unusedSimpArgs false
set_option maxRecDepth 100000
namespace Go.Proofs.YtaemgcpcfnbmdaaGreatDoor.LG
open Go Go.LG Go.RowKit Go.Value
theorem l0 : fK Tryz.prog 103 = some (true, 2) := by kernel_rfl
theorem s0 : fK Tryz.prog 114 = some (true, 2) := by kernel_rfl
theorem nS : fK Tryz.prog 122 = some (true, 3) := by kernel_rfl
theorem wD : fK Tryz.prog 127 = some (true, 2) := by kernel_rfl
theorem Ak : fK Tryz.prog 133 = some (false, 1) := by kernel_rfl
theorem AZ : fK Tryz.prog 137 = some (true, 5) := by kernel_rfl
theorem CE : fK Tryz.prog 145 = some (false, 1) := by kernel_rfl
theorem pN : fK Tryz.prog 147 = some (true, 5) := by kernel_rfl
theorem E5 : fK Tryz.prog 186 = some (false, 1) := by kernel_rfl
theorem E4 : fK Tryz.prog 207 = some (true, 4) := by kernel_rfl
theorem rd : fK Tryz.prog 22 = some (false, 1) := by kernel_rfl
theorem AL : fK Tryz.prog 221 = some (false, 1) := by kernel_rfl
theorem qV : fK Tryz.prog 23 = some (false, 1) := by kernel_rfl
theorem fw : fK Tryz.prog 25 = some (true, 2) := by kernel_rfl
theorem ul : fK Tryz.prog 26 = some (false, 1) := by kernel_rfl
theorem jT : fK Tryz.prog 28 = some (true, 3) := by kernel_rfl
theorem bv : fK Tryz.prog 3 = some (false, 1) := by kernel_rfl
theorem ag30 : fK Tryz.prog 30 = some (true, 6) := by kernel_rfl
theorem Dw : fK Tryz.prog 31 = some (false, 1) := by kernel_rfl
theorem zU : fK Tryz.prog 4 = some (false, 1) := by kernel_rfl
theorem Df : fK Tryz.prog 41 = some (false, 1) := by kernel_rfl
theorem oO : fK Tryz.prog 44 = some (false, 1) := by kernel_rfl
theorem gy : fK Tryz.prog 46 = some (true, 4) := by kernel_rfl
theorem p6 : fK Tryz.prog 5 = some (false, 1) := by kernel_rfl
theorem vT : fK Tryz.prog 50 = some (true, 5) := by kernel_rfl
theorem oF : fK Tryz.prog 53 = some (true, 2) := by kernel_rfl
theorem vc : fK Tryz.prog 57 = some (true, 5) := by kernel_rfl
theorem ag62 : fK Tryz.prog 62 = some (false, 1) := by kernel_rfl
theorem ag75 : fK Tryz.prog 75 = some (false, 1) := by kernel_rfl
theorem xF : fK Tryz.prog 77 = some (false, 1) := by kernel_rfl
theorem m2 : fK Tryz.prog 79 = some (true, 3) := by kernel_rfl
theorem qU : fK Tryz.prog 9 = some (false, 1) := by kernel_rfl
theorem Bh : fK Tryz.prog 97 = some (true, 12) := by kernel_rfl
theorem BG : zx Tryz.prog 206 = some (2, 3, 1) := by kernel_rfl
theorem CS : zx Tryz.prog 207 = some (2, 206, 2) := by kernel_rfl
theorem bo10 : aE Tryz.prog 10 = true := by kernel_rfl
theorem DT : aE Tryz.prog 100 = true := by kernel_rfl
theorem CC : aE Tryz.prog 101 = true := by kernel_rfl
theorem Ef : aE Tryz.prog 102 = true := by kernel_rfl
theorem CQ : aE Tryz.prog 103 = true := by kernel_rfl
theorem Bo : aE Tryz.prog 104 = true := by kernel_rfl
theorem Ex : aE Tryz.prog 105 = true := by kernel_rfl
theorem bo11 : aE Tryz.prog 11 = true := by kernel_rfl
theorem Ey : aE Tryz.prog 114 = true := by kernel_rfl
theorem Ee : aE Tryz.prog 115 = true := by kernel_rfl
theorem E3 : aE Tryz.prog 116 = true := by kernel_rfl
theorem Ea : aE Tryz.prog 117 = true := by kernel_rfl
theorem EA : aE Tryz.prog 118 = true := by kernel_rfl
theorem Ew : aE Tryz.prog 119 = true := by kernel_rfl
theorem bo12 : aE Tryz.prog 12 = true := by kernel_rfl
theorem EH : aE Tryz.prog 120 = true := by kernel_rfl
theorem Eg : aE Tryz.prog 121 = true := by kernel_rfl
theorem Eo : aE Tryz.prog 122 = true := by kernel_rfl
theorem EB : aE Tryz.prog 123 = true := by kernel_rfl
theorem CO : aE Tryz.prog 124 = true := by kernel_rfl
theorem DH : aE Tryz.prog 125 = true := by kernel_rfl
theorem DP : aE Tryz.prog 126 = true := by kernel_rfl
theorem C7 : aE Tryz.prog 127 = true := by kernel_rfl
theorem CP : aE Tryz.prog 128 = true := by kernel_rfl
theorem D6 : aE Tryz.prog 129 = true := by kernel_rfl
theorem bo13 : aE Tryz.prog 13 = true := by kernel_rfl
theorem CR : aE Tryz.prog 130 = true := by kernel_rfl
theorem ED : aE Tryz.prog 131 = true := by kernel_rfl
theorem DE : aE Tryz.prog 132 = true := by kernel_rfl
theorem E7 : aE Tryz.prog 133 = true := by kernel_rfl
theorem CH : aE Tryz.prog 134 = true := by kernel_rfl
theorem Dd : aE Tryz.prog 14 = true := by kernel_rfl
theorem EC : aE Tryz.prog 144 = true := by kernel_rfl
theorem Eh : aE Tryz.prog 145 = true := by kernel_rfl
theorem DK : aE Tryz.prog 146 = true := by kernel_rfl
theorem Ek : aE Tryz.prog 147 = true := by kernel_rfl
theorem EK : aE Tryz.prog 148 = true := by kernel_rfl
theorem EU : aE Tryz.prog 149 = true := by kernel_rfl
theorem DJ : aE Tryz.prog 150 = true := by kernel_rfl
theorem Em : aE Tryz.prog 151 = true := by kernel_rfl
theorem ER : aE Tryz.prog 152 = true := by kernel_rfl
theorem Ez : aE Tryz.prog 153 = true := by kernel_rfl
theorem CM : aE Tryz.prog 154 = true := by kernel_rfl
theorem C1 : aE Tryz.prog 155 = true := by kernel_rfl
theorem C3 : aE Tryz.prog 156 = true := by kernel_rfl
theorem EQ : aE Tryz.prog 157 = true := by kernel_rfl
theorem D8 : aE Tryz.prog 158 = true := by kernel_rfl
theorem E2 : aE Tryz.prog 159 = true := by kernel_rfl
theorem bo16 : aE Tryz.prog 16 = true := by kernel_rfl
theorem C0 : aE Tryz.prog 160 = true := by kernel_rfl
theorem CG : aE Tryz.prog 161 = true := by kernel_rfl
theorem Af : aE Tryz.prog 162 = true := by kernel_rfl
theorem Da : aE Tryz.prog 163 = true := by kernel_rfl
theorem bo17 : aE Tryz.prog 17 = true := by kernel_rfl
theorem CL : aE Tryz.prog 172 = true := by kernel_rfl
theorem Ev : aE Tryz.prog 173 = true := by kernel_rfl
theorem En : aE Tryz.prog 174 = true := by kernel_rfl
theorem CF : aE Tryz.prog 175 = true := by kernel_rfl
theorem DF : aE Tryz.prog 176 = true := by kernel_rfl
theorem yI : aE Tryz.prog 177 = true := by kernel_rfl
theorem CD : aE Tryz.prog 178 = true := by kernel_rfl
theorem bo18 : aE Tryz.prog 18 = true := by kernel_rfl
theorem ET : aE Tryz.prog 187 = true := by kernel_rfl
theorem DQ : aE Tryz.prog 19 = true := by kernel_rfl
theorem Ch : aE Tryz.prog 20 = true := by kernel_rfl
theorem yZ : aE Tryz.prog 22 = true := by kernel_rfl
theorem El : aE Tryz.prog 23 = true := by kernel_rfl
theorem zQ : aE Tryz.prog 24 = true := by kernel_rfl
theorem Ai : aE Tryz.prog 25 = true := by kernel_rfl
theorem bo26 : aE Tryz.prog 26 = true := by kernel_rfl
theorem bo27 : aE Tryz.prog 27 = true := by kernel_rfl
theorem Do : aE Tryz.prog 28 = true := by kernel_rfl
theorem DY : aE Tryz.prog 29 = true := by kernel_rfl
theorem DR : aE Tryz.prog 30 = true := by kernel_rfl
theorem DG : aE Tryz.prog 31 = true := by kernel_rfl
theorem bo32 : aE Tryz.prog 32 = true := by kernel_rfl
theorem wA : aE Tryz.prog 33 = true := by kernel_rfl
theorem bo34 : aE Tryz.prog 34 = true := by kernel_rfl
theorem zh : aE Tryz.prog 35 = true := by kernel_rfl
theorem bo36 : aE Tryz.prog 36 = true := by kernel_rfl
theorem bo37 : aE Tryz.prog 37 = true := by kernel_rfl
theorem Dy : aE Tryz.prog 38 = true := by kernel_rfl
theorem zP : aE Tryz.prog 39 = true := by kernel_rfl
theorem E1 : aE Tryz.prog 40 = true := by kernel_rfl
theorem E0 : aE Tryz.prog 41 = true := by kernel_rfl
theorem bo42 : aE Tryz.prog 42 = true := by kernel_rfl
theorem EF : aE Tryz.prog 43 = true := by kernel_rfl
theorem xA : aE Tryz.prog 44 = true := by kernel_rfl
theorem bo45 : aE Tryz.prog 45 = true := by kernel_rfl
theorem xh : aE Tryz.prog 46 = true := by kernel_rfl
theorem EZ : aE Tryz.prog 47 = true := by kernel_rfl
theorem AO : aE Tryz.prog 48 = true := by kernel_rfl
theorem D0 : aE Tryz.prog 49 = true := by kernel_rfl
theorem bo50 : aE Tryz.prog 50 = true := by kernel_rfl
theorem bo51 : aE Tryz.prog 51 = true := by kernel_rfl
theorem bo52 : aE Tryz.prog 52 = true := by kernel_rfl
theorem BR : aE Tryz.prog 53 = true := by kernel_rfl
theorem D1 : aE Tryz.prog 54 = true := by kernel_rfl
theorem ES : aE Tryz.prog 55 = true := by kernel_rfl
theorem bo56 : aE Tryz.prog 56 = true := by kernel_rfl
theorem bo57 : aE Tryz.prog 57 = true := by kernel_rfl
theorem bo58 : aE Tryz.prog 58 = true := by kernel_rfl
theorem DN : aE Tryz.prog 59 = true := by kernel_rfl
theorem D4 : aE Tryz.prog 60 = true := by kernel_rfl
theorem DO : aE Tryz.prog 61 = true := by kernel_rfl
theorem bo62 : aE Tryz.prog 62 = true := by kernel_rfl
theorem bo63 : aE Tryz.prog 63 = true := by kernel_rfl
theorem E6 : aE Tryz.prog 64 = true := by kernel_rfl
theorem bo65 : aE Tryz.prog 65 = true := by kernel_rfl
theorem bo66 : aE Tryz.prog 66 = true := by kernel_rfl
theorem bo67 : aE Tryz.prog 67 = true := by kernel_rfl
theorem bo68 : aE Tryz.prog 68 = true := by kernel_rfl
theorem B8 : aE Tryz.prog 69 = true := by kernel_rfl
theorem bo70 : aE Tryz.prog 70 = true := by kernel_rfl
theorem bo71 : aE Tryz.prog 71 = true := by kernel_rfl
theorem bo72 : aE Tryz.prog 72 = true := by kernel_rfl
theorem Ec : aE Tryz.prog 73 = true := by kernel_rfl
theorem DC : aE Tryz.prog 74 = true := by kernel_rfl
theorem BW : aE Tryz.prog 75 = true := by kernel_rfl
theorem Dh : aE Tryz.prog 76 = true := by kernel_rfl
theorem we : aE Tryz.prog 77 = true := by kernel_rfl
theorem bo78 : aE Tryz.prog 78 = true := by kernel_rfl
theorem bo79 : aE Tryz.prog 79 = true := by kernel_rfl
theorem bo80 : aE Tryz.prog 80 = true := by kernel_rfl
theorem bo81 : aE Tryz.prog 81 = true := by kernel_rfl
theorem bo82 : aE Tryz.prog 82 = true := by kernel_rfl
theorem bo83 : aE Tryz.prog 83 = true := by kernel_rfl
theorem bo84 : aE Tryz.prog 84 = true := by kernel_rfl
theorem DV : aE Tryz.prog 85 = true := by kernel_rfl
theorem bo86 : aE Tryz.prog 86 = true := by kernel_rfl
theorem Ci : aE Tryz.prog 87 = true := by kernel_rfl
theorem bo88 : aE Tryz.prog 88 = true := by kernel_rfl
theorem Cv : aE Tryz.prog 89 = true := by kernel_rfl
theorem Eu : aE Tryz.prog 90 = true := by kernel_rfl
theorem bo91 : aE Tryz.prog 91 = true := by kernel_rfl
theorem bo92 : aE Tryz.prog 92 = true := by kernel_rfl
theorem bo93 : aE Tryz.prog 93 = true := by kernel_rfl
theorem bo94 : aE Tryz.prog 94 = true := by kernel_rfl
theorem DM : aE Tryz.prog 95 = true := by kernel_rfl
theorem bo96 : aE Tryz.prog 96 = true := by kernel_rfl
theorem bo97 : aE Tryz.prog 97 = true := by kernel_rfl
theorem EJ : aE Tryz.prog 98 = true := by kernel_rfl
theorem bo99 : aE Tryz.prog 99 = true := by kernel_rfl
theorem jM : k9 Tryz.prog 133 = some (5, 1, 1) := by kernel_rfl
theorem su : k9 Tryz.prog 22 = some (103, 2, 16) := by kernel_rfl
theorem s8 : k9 Tryz.prog 23 = some (122, 3, 16) := by kernel_rfl
theorem zj : k9 Tryz.prog 26 = some (9, 1, 16) := by kernel_rfl
theorem oh : k9 Tryz.prog 31 = some (57, 5, 40) := by kernel_rfl
theorem ut : k9 Tryz.prog 34 = some (50, 5, 48) := by kernel_rfl
theorem EX : k9 Tryz.prog 41 = some (46, 4, 32) := by kernel_rfl
theorem dI : k9 Tryz.prog 44 = some (3, 1, 8) := by kernel_rfl
theorem p7 : k9 Tryz.prog 77 = some (114, 2, 16) := by kernel_rfl
theorem mr : bV Tryz.prog 103 0 = some (0, 1) := by kernel_rfl
theorem oa : bV Tryz.prog 103 1 = some (1, 1) := by kernel_rfl
theorem rC : bV Tryz.prog 114 0 = some (0, 1) := by kernel_rfl
theorem rE : bV Tryz.prog 114 1 = some (1, 1) := by kernel_rfl
theorem mU : bV Tryz.prog 122 0 = some (0, 1) := by kernel_rfl
theorem pn : bV Tryz.prog 122 1 = some (1, 1) := by kernel_rfl
theorem o2 : bV Tryz.prog 122 2 = some (2, 1) := by kernel_rfl
theorem BP : bV Tryz.prog 127 0 = some (0, 1) := by kernel_rfl
theorem yN : bV Tryz.prog 127 1 = some (1, 1) := by kernel_rfl
theorem n0 : bV Tryz.prog 137 0 = some (0, 5) := by kernel_rfl
theorem yD : bV Tryz.prog 147 0 = some (0, 3) := by kernel_rfl
theorem ip : bV Tryz.prog 147 1 = some (3, 1) := by kernel_rfl
theorem yt : bV Tryz.prog 147 2 = some (4, 1) := by kernel_rfl
theorem kK : bV Tryz.prog 25 0 = some (0, 1) := by kernel_rfl
theorem kX : bV Tryz.prog 25 1 = some (1, 1) := by kernel_rfl
theorem t6 : bV Tryz.prog 28 0 = some (0, 1) := by kernel_rfl
theorem tS : bV Tryz.prog 28 1 = some (1, 1) := by kernel_rfl
theorem ow : bV Tryz.prog 28 2 = some (2, 1) := by kernel_rfl
theorem Bz : bV Tryz.prog 30 0 = some (0, 1) := by kernel_rfl
theorem AY : bV Tryz.prog 30 1 = some (1, 1) := by kernel_rfl
theorem zZ : bV Tryz.prog 30 2 = some (2, 1) := by kernel_rfl
theorem Bb : bV Tryz.prog 30 3 = some (3, 1) := by kernel_rfl
theorem An : bV Tryz.prog 30 4 = some (4, 1) := by kernel_rfl
theorem Ah : bV Tryz.prog 30 5 = some (5, 1) := by kernel_rfl
theorem sG : bV Tryz.prog 46 0 = some (0, 1) := by kernel_rfl
theorem nG : bV Tryz.prog 46 1 = some (1, 1) := by kernel_rfl
theorem ng : bV Tryz.prog 46 2 = some (2, 1) := by kernel_rfl
theorem Al : bV Tryz.prog 46 3 = some (3, 1) := by kernel_rfl
theorem xz : bV Tryz.prog 50 2 = some (2, 1) := by kernel_rfl
theorem kn : bV Tryz.prog 53 0 = some (0, 1) := by kernel_rfl
theorem kN : bV Tryz.prog 53 1 = some (1, 1) := by kernel_rfl
theorem sH : bV Tryz.prog 57 0 = some (0, 1) := by kernel_rfl
theorem sA : bV Tryz.prog 57 1 = some (1, 1) := by kernel_rfl
theorem nB : bV Tryz.prog 57 2 = some (2, 1) := by kernel_rfl
theorem vH : bV Tryz.prog 57 3 = some (3, 1) := by kernel_rfl
theorem nF : bV Tryz.prog 57 4 = some (4, 1) := by kernel_rfl
theorem Bd : bV Tryz.prog 79 0 = some (0, 1) := by kernel_rfl
theorem Bl : bV Tryz.prog 79 1 = some (1, 1) := by kernel_rfl
theorem Dv : bV Tryz.prog 79 2 = some (2, 1) := by kernel_rfl
theorem vM : bV Tryz.prog 97 0 = some (0, 2) := by kernel_rfl
theorem yc : bV Tryz.prog 97 1 = some (2, 3) := by kernel_rfl
theorem tI : bV Tryz.prog 97 2 = some (5, 1) := by kernel_rfl
theorem vg : bV Tryz.prog 97 3 = some (6, 1) := by kernel_rfl
theorem tT : bV Tryz.prog 97 4 = some (7, 1) := by kernel_rfl
theorem xE : bV Tryz.prog 97 5 = some (8, 1) := by kernel_rfl
theorem x5 : bV Tryz.prog 97 6 = some (9, 1) := by kernel_rfl
theorem vy : bV Tryz.prog 97 7 = some (10, 1) := by kernel_rfl
theorem yj : bV Tryz.prog 97 8 = some (11, 1) := by kernel_rfl
theorem AW : qK Tryz.prog 21 = some .i32 := by kernel_rfl
theorem ik3 : qK Tryz.prog 3 = some .i64 := by kernel_rfl
theorem Az : qK Tryz.prog 5 = some .u8 := by kernel_rfl
theorem Cw : qK Tryz.prog 91 = some .u64 := by kernel_rfl
theorem jD : Tryz.prog.follows .mixedOrders = true := by kernel_rfl
theorem yu : z8 Tryz.prog 145 = some (9, 4) := by kernel_rfl
theorem zY : iL Tryz.prog 103 = some [(0, 1), (1, 1)] := by kernel_rfl
theorem uI : iL Tryz.prog 114 = some [(0, 1), (1, 1)] := by kernel_rfl
theorem CZ : iL Tryz.prog 127 = some [(0, 1), (1, 1)] := by kernel_rfl
theorem EY : iL Tryz.prog 137 = some [(0, 5)] := by kernel_rfl
theorem EO : iL Tryz.prog 147 = some [(0, 3), (3, 1), (4, 1)] := by kernel_rfl
theorem pl25 : iL Tryz.prog 25 = some [(0, 1), (1, 1)] := by kernel_rfl
theorem pl28 : iL Tryz.prog 28 = some [(0, 1), (1, 1), (2, 1)] := by kernel_rfl
theorem xR : iL Tryz.prog 46 = some [(0, 1), (1, 1), (2, 1), (3, 1)] := by kernel_rfl
theorem uv : iL Tryz.prog 50 = some [(0, 1), (1, 1), (2, 1), (3, 1), (4, 1)] := by kernel_rfl
theorem Cr : iL Tryz.prog 53 = some [(0, 1), (1, 1)] := by kernel_rfl
theorem D3 : iL Tryz.prog 57 = some [(0, 1), (1, 1), (2, 1), (3, 1), (4, 1)] := by kernel_rfl
theorem zS : iL Tryz.prog 79 = some [(0, 1), (1, 1), (2, 1)] := by kernel_rfl
theorem pl97 : iL Tryz.prog 97 = some [(0, 2), (2, 3), (5, 1), (6, 1), (7, 1), (8, 1), (9, 1), (10, 1), (11, 1)] := by kernel_rfl
theorem sd : gX Tryz.prog 133 = some 1 := by kernel_rfl
theorem wO : gX Tryz.prog 22 = some 1 := by kernel_rfl
theorem x6 : gX Tryz.prog 23 = some 1 := by kernel_rfl
theorem zq : gX Tryz.prog 26 = some 1 := by kernel_rfl
theorem vO : gX Tryz.prog 31 = some 1 := by kernel_rfl
theorem yh : gX Tryz.prog 34 = some 1 := by kernel_rfl
theorem so41 : gX Tryz.prog 41 = some 1 := by kernel_rfl
theorem lg : gX Tryz.prog 44 = some 1 := by kernel_rfl
theorem vU : gX Tryz.prog 77 = some 1 := by kernel_rfl
theorem fA : gX Tryz.prog 9 = some 0 := by kernel_rfl
theorem nm : gG Tryz.prog 103 = some [Value.int .u8 0, Value.int .i64 0] := by kernel_rfl
theorem mR : gG Tryz.prog 114 = some [Value.int .i64 0, Value.bool false] := by kernel_rfl
theorem wi : gG Tryz.prog 122 = some [Value.int .u8 0, Value.int .u8 0, Value.int .i64 0] := by kernel_rfl
theorem AA : gG Tryz.prog 127 = some [Value.int .u8 0, Value.int .u8 0] := by kernel_rfl
theorem C5 : gG Tryz.prog 137 = some [Value.int .i64 0, Value.int .i64 0, Value.int .i64 0, Value.int .i64 0, Value.int .i64 0] := by kernel_rfl
theorem yR : gG Tryz.prog 147 = some [Value.int .i64 0, Value.int .i64 0, Value.slice none 0 0, Value.string (⟨#[]⟩ : ByteArray), Value.map none] := by kernel_rfl
theorem CX : gG Tryz.prog 206 = some [Value.int .i64 0, Value.int .i64 0] := by kernel_rfl
theorem CI : gG Tryz.prog 207 = some [Value.int .i64 0, Value.int .i64 0, Value.int .i64 0, Value.int .i64 0] := by kernel_rfl
theorem Ep : gG Tryz.prog 221 = some [Value.nilFunc] := by kernel_rfl
theorem Dm : gG Tryz.prog 25 = some [Value.slice none 0 0, Value.slice none 0 0] := by kernel_rfl
theorem DU : gG Tryz.prog 28 = some [Value.int .i64 0, Value.int .i64 0, Value.slice none 0 0] := by kernel_rfl
theorem vI : gG Tryz.prog 3 = some [Value.int .i64 0] := by kernel_rfl
theorem ze4 : gG Tryz.prog 4 = some [Value.bool false] := by kernel_rfl
theorem ze44 : gG Tryz.prog 44 = some [Value.slice none 0 0] := by kernel_rfl
theorem mO : gG Tryz.prog 46 = some [Value.int .i64 0, Value.int .i64 0, Value.int .i64 0, Value.bool false] := by kernel_rfl
theorem Ad : gG Tryz.prog 5 = some [Value.int .u8 0] := by kernel_rfl
theorem oX : gG Tryz.prog 50 = some [Value.string (⟨#[]⟩ : ByteArray), Value.int .i64 0, Value.int .i64 0, Value.int .i64 0, Value.int .i64 0] := by kernel_rfl
theorem rp : gG Tryz.prog 53 = some [Value.int .i64 0, Value.int .i64 0] := by kernel_rfl
theorem zi : gG Tryz.prog 57 = some [Value.int .i64 0, Value.int .i64 0, Value.int .i64 0, Value.int .i64 0, Value.int .i64 0] := by kernel_rfl
theorem ze77 : gG Tryz.prog 77 = some [Value.slice none 0 0] := by kernel_rfl
theorem sE : gG Tryz.prog 79 = some [Value.string (⟨#[]⟩ : ByteArray), Value.slice none 0 0, Value.nilFunc] := by kernel_rfl
theorem D5 : gG Tryz.prog 97 = some [Value.slice none 0 0, Value.slice none 0 0, Value.int .i64 0, Value.int .i64 0, Value.slice none 0 0, Value.string (⟨#[]⟩ : ByteArray), Value.int .i64 0, Value.int .i64 0, Value.int .i64 0, Value.int .i64 0, Value.int .i64 0, Value.slice none 0 0] := by kernel_rfl
theorem zv4 : zeroV Tryz.prog 4 = some (Value.bool false) := by kernel_rfl
def b6 : Kd an := Kd.iso (Kd.pair Kd.str (Kd.pair (Kd.int .i64) (Kd.pair (Kd.int .i64) (Kd.pair (Kd.int .i64) (Kd.int .i64))))) (fun x => (x.Text, x.X, x.Y, x.W, x.H))
theorem qN {G : Gh} {x : an} {cs : List Value} (h : b6.K G x cs) : cs = [Value.string x.Text, Value.int .i64 x.X, Value.int .i64 x.Y, Value.int .i64 x.W, Value.int .i64 x.H] := by
 obtain ⟨_, _, rfl, rfl, ⟨_, _, rfl, rfl, ⟨_, _, rfl, rfl, ⟨_, _, rfl, rfl, rfl⟩⟩⟩⟩ := h
 exact rfl
theorem iZ {G : Gh} {x : an} : b6.K G x [Value.string x.Text, Value.int .i64 x.X, Value.int .i64 x.Y, Value.int .i64 x.W, Value.int .i64 x.H] := ⟨[Value.string x.Text], [Value.int .i64 x.X, Value.int .i64 x.Y, Value.int .i64 x.W, Value.int .i64 x.H], rfl, rfl, ⟨[Value.int .i64 x.X], [Value.int .i64 x.Y, Value.int .i64 x.W, Value.int .i64 x.H], rfl, rfl, ⟨[Value.int .i64 x.Y], [Value.int .i64 x.W, Value.int .i64 x.H], rfl, rfl, ⟨[Value.int .i64 x.W], [Value.int .i64 x.H], rfl, rfl, rfl⟩⟩⟩⟩
theorem vJ : Tryz.prog.eqGuardType Tryz.prog.depth 50 = false := by kernel_rfl
theorem vu (x y : an) : tH Tryz.prog 10000 50 [Value.string x.Text, Value.int .i64 x.X, Value.int .i64 x.Y, Value.int .i64 x.W, Value.int .i64 x.H] [Value.string y.Text, Value.int .i64 y.X, Value.int .i64 y.Y, Value.int .i64 y.W, Value.int .i64 y.H] = some (decide (x.Text = y.Text) && (decide (x.X = y.X) && (decide (x.Y = y.Y) && (decide (x.W = y.W) && (decide (x.H = y.H) && true))))) := by kernel_rfl
theorem vm (x y : an) : (decide (x.Text = y.Text) && (decide (x.X = y.X) && (decide (x.Y = y.Y) && (decide (x.W = y.W) && (decide (x.H = y.H) && true))))) = decide (x = y) := by
 rcases x with ⟨_, _, _, _, _⟩
 rcases y with ⟨_, _, _, _, _⟩
 simp
def au : Kd aA := Kd.iso (Kd.pair (Kd.int .u8) (Kd.int .i64)) (fun x => (x.Byte, x.Advance))
theorem dX {G : Gh} {x : aA} {cs : List Value} (h : au.K G x cs) : cs = [Value.int .u8 x.Byte, Value.int .i64 x.Advance] := by
 obtain ⟨_, _, rfl, rfl, rfl⟩ := h
 exact rfl
theorem pc {G : Gh} {x : aA} : au.K G x [Value.int .u8 x.Byte, Value.int .i64 x.Advance] := ⟨[Value.int .u8 x.Byte], [Value.int .i64 x.Advance], rfl, rfl, rfl⟩
def ay : Kd bX := Kd.iso (Kd.pair (Kd.int .u8) (Kd.pair (Kd.int .u8) (Kd.int .i64))) (fun x => (x.Left, x.Right, x.By))
theorem dB {G : Gh} {x : bX} {cs : List Value} (h : ay.K G x cs) : cs = [Value.int .u8 x.Left, Value.int .u8 x.Right, Value.int .i64 x.By] := by
 obtain ⟨_, _, rfl, rfl, ⟨_, _, rfl, rfl, rfl⟩⟩ := h
 exact rfl
def tP : Kd ai := Kd.iso (Kd.pair (Kd.slice au) (Kd.slice ay)) (fun x => (x.Glyphs, x.Kerns))
theorem uj {G : Gh} {x : ai} {cs : List Value} (h : tP.K G x cs) : ∃ (A1 : Option Addr) (c2 : Nat), x.Glyphs.length ≤ c2 ∧ Dat au G A1 x.Glyphs ∧ ∃ (A5 : Option Addr) (c6 : Nat), x.Kerns.length ≤ c6 ∧ Dat ay G A5 x.Kerns ∧ cs = [Value.slice A1 x.Glyphs.length c2, Value.slice A5 x.Kerns.length c6] := by
 obtain ⟨_, _, rfl, ⟨A1, c2, rfl, hl3, hD4⟩, ⟨A5, c6, rfl, hl7, hD8⟩⟩ := h
 exact ⟨A1, c2, hl3, hD4, ⟨A5, c6, hl7, hD8, rfl⟩⟩
def nQ : Kd aO := Kd.iso (Kd.pair (Kd.int .u8) (Kd.int .u8)) (fun x => (x.left, x.right))
theorem tR {G : Gh} {x : aO} {cs : List Value} (h : nQ.K G x cs) : cs = [Value.int .u8 x.left, Value.int .u8 x.right] := by
 obtain ⟨_, _, rfl, rfl, rfl⟩ := h
 exact rfl
theorem vw {G : Gh} {x : aO} : nQ.K G x [Value.int .u8 x.left, Value.int .u8 x.right] := ⟨[Value.int .u8 x.left], [Value.int .u8 x.right], rfl, rfl, rfl⟩
def sa : Kd ak := Kd.iso (Kd.pair (Kd.int .i64) (Kd.pair (Kd.int .i64) (Kd.slice Kd.str))) (fun x => (x.Before, x.Behind, x.Keep))
theorem ta {G : Gh} {x : ak} {cs : List Value} (h : sa.K G x cs) : ∃ (A1 : Option Addr) (c2 : Nat), x.Keep.length ≤ c2 ∧ Dat Kd.str G A1 x.Keep ∧ cs = [Value.int .i64 x.Before, Value.int .i64 x.Behind, Value.slice A1 x.Keep.length c2] := by
 obtain ⟨_, _, rfl, rfl, ⟨_, _, rfl, rfl, ⟨A1, c2, rfl, hl3, hD4⟩⟩⟩ := h
 exact ⟨A1, c2, hl3, hD4, rfl⟩
def aS : Kd ah := Kd.iso (Kd.pair (Kd.int .i64) Kd.bool) (fun x => (x.At, x.Hyphen))
theorem dU {G : Gh} {x : ah} {cs : List Value} (h : aS.K G x cs) : cs = [Value.int .i64 x.At, Value.bool x.Hyphen] := by
 obtain ⟨_, _, rfl, rfl, rfl⟩ := h
 exact rfl
theorem iD {G : Gh} {x : ah} : aS.K G x [Value.int .i64 x.At, Value.bool x.Hyphen] := ⟨[Value.int .i64 x.At], [Value.bool x.Hyphen], rfl, rfl, rfl⟩
def jf : Kd az := Kd.iso (Kd.pair (Kd.int .i64) (Kd.pair (Kd.int .i64) (Kd.pair (Kd.int .i64) Kd.bool))) (fun x => (x.From, x.Until, x.Width, x.Hyphen))
theorem uu {G : Gh} {x : az} {cs : List Value} (h : jf.K G x cs) : cs = [Value.int .i64 x.From, Value.int .i64 x.Until, Value.int .i64 x.Width, Value.bool x.Hyphen] := by
 obtain ⟨_, _, rfl, rfl, ⟨_, _, rfl, rfl, ⟨_, _, rfl, rfl, rfl⟩⟩⟩ := h
 exact rfl
theorem sX {G : Gh} {x : az} : jf.K G x [Value.int .i64 x.From, Value.int .i64 x.Until, Value.int .i64 x.Width, Value.bool x.Hyphen] := ⟨[Value.int .i64 x.From], [Value.int .i64 x.Until, Value.int .i64 x.Width, Value.bool x.Hyphen], rfl, rfl, ⟨[Value.int .i64 x.Until], [Value.int .i64 x.Width, Value.bool x.Hyphen], rfl, rfl, ⟨[Value.int .i64 x.Width], [Value.bool x.Hyphen], rfl, rfl, rfl⟩⟩⟩
def bm : Kd ab := Kd.iso (Kd.pair (Kd.int .i64) (Kd.pair (Kd.int .i64) (Kd.pair (Kd.int .i64) (Kd.pair (Kd.int .i64) (Kd.int .i64))))) (fun x => (x.Side, x.X, x.Y, x.W, x.H))
theorem bF {G : Gh} {x : ab} {cs : List Value} (h : bm.K G x cs) : cs = [Value.int .i64 x.Side, Value.int .i64 x.X, Value.int .i64 x.Y, Value.int .i64 x.W, Value.int .i64 x.H] := by
 obtain ⟨_, _, rfl, rfl, ⟨_, _, rfl, rfl, ⟨_, _, rfl, rfl, ⟨_, _, rfl, rfl, rfl⟩⟩⟩⟩ := h
 exact rfl
theorem rV {G : Gh} {x : ab} : bm.K G x [Value.int .i64 x.Side, Value.int .i64 x.X, Value.int .i64 x.Y, Value.int .i64 x.W, Value.int .i64 x.H] := ⟨[Value.int .i64 x.Side], [Value.int .i64 x.X, Value.int .i64 x.Y, Value.int .i64 x.W, Value.int .i64 x.H], rfl, rfl, ⟨[Value.int .i64 x.X], [Value.int .i64 x.Y, Value.int .i64 x.W, Value.int .i64 x.H], rfl, rfl, ⟨[Value.int .i64 x.Y], [Value.int .i64 x.W, Value.int .i64 x.H], rfl, rfl, ⟨[Value.int .i64 x.W], [Value.int .i64 x.H], rfl, rfl, rfl⟩⟩⟩⟩
def oU : Kd eX := Kd.iso (Kd.pair (Kd.int .i64) (Kd.pair (Kd.int .i64) (Kd.pair (Kd.int .i64) (Kd.pair (Kd.int .i64) (Kd.pair (Kd.int .i64) (Kd.int .i64)))))) (fun x => (x.Scale, x.Line, x.Align, x.Dir, x.Width, x.Y))
theorem qx {G : Gh} {x : eX} {cs : List Value} (h : oU.K G x cs) : cs = [Value.int .i64 x.Scale, Value.int .i64 x.Line, Value.int .i64 x.Align, Value.int .i64 x.Dir, Value.int .i64 x.Width, Value.int .i64 x.Y] := by
 obtain ⟨_, _, rfl, rfl, ⟨_, _, rfl, rfl, ⟨_, _, rfl, rfl, ⟨_, _, rfl, rfl, ⟨_, _, rfl, rfl, rfl⟩⟩⟩⟩⟩ := h
 exact rfl
end Go.Proofs.YtaemgcpcfnbmdaaGreatDoor.LG
