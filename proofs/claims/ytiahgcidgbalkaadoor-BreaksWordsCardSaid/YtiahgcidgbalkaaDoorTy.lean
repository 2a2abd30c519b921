/-
  Closed facts of the program's types, and how each struct lies in memory: printed by a program out of the translation.
-/
import Derived.Test.YtiahgcidgbalkaaDoorProg
import Derived.KernelRfl
import Derived.Test.YtiahgcidgbalkaaDoorLgN
import Derived.Test.YtiahgcidgbalkaaDoorPd
set_option linter.unusedVariables false
set_option linter.unusedSimpArgs false
set_option maxRecDepth 100000
namespace Go.Proofs.YtiahgcidgbalkaaDoor.LG
open Go Go.LG Go.RowKit
theorem ag22 : aggB Tryd.prog 22 = some (false, 1) := by kernel_rfl
theorem ag24 : aggB Tryd.prog 24 = some (true, 3) := by kernel_rfl
theorem ag26 : aggB Tryd.prog 26 = some (false, 1) := by kernel_rfl
theorem ag3 : aggB Tryd.prog 3 = some (false, 1) := by kernel_rfl
theorem ag37 : aggB Tryd.prog 37 = some (true, 2) := by kernel_rfl
theorem ag4 : aggB Tryd.prog 4 = some (false, 1) := by kernel_rfl
theorem ag43 : aggB Tryd.prog 43 = some (false, 1) := by kernel_rfl
theorem ag45 : aggB Tryd.prog 45 = some (true, 5) := by kernel_rfl
theorem ag5 : aggB Tryd.prog 5 = some (false, 1) := by kernel_rfl
theorem ag58 : aggB Tryd.prog 58 = some (false, 1) := by kernel_rfl
theorem ag9 : aggB Tryd.prog 9 = some (false, 1) := by kernel_rfl
theorem bo10 : bodyB Tryd.prog 10 = true := by kernel_rfl
theorem bo11 : bodyB Tryd.prog 11 = true := by kernel_rfl
theorem bo12 : bodyB Tryd.prog 12 = true := by kernel_rfl
theorem bo13 : bodyB Tryd.prog 13 = true := by kernel_rfl
theorem bo14 : bodyB Tryd.prog 14 = true := by kernel_rfl
theorem bo15 : bodyB Tryd.prog 15 = true := by kernel_rfl
theorem bo16 : bodyB Tryd.prog 16 = true := by kernel_rfl
theorem bo17 : bodyB Tryd.prog 17 = true := by kernel_rfl
theorem bo18 : bodyB Tryd.prog 18 = true := by kernel_rfl
theorem bo19 : bodyB Tryd.prog 19 = true := by kernel_rfl
theorem bo20 : bodyB Tryd.prog 20 = true := by kernel_rfl
theorem bo21 : bodyB Tryd.prog 21 = true := by kernel_rfl
theorem bo22 : bodyB Tryd.prog 22 = true := by kernel_rfl
theorem bo23 : bodyB Tryd.prog 23 = true := by kernel_rfl
theorem bo24 : bodyB Tryd.prog 24 = true := by kernel_rfl
theorem bo25 : bodyB Tryd.prog 25 = true := by kernel_rfl
theorem bo26 : bodyB Tryd.prog 26 = true := by kernel_rfl
theorem bo27 : bodyB Tryd.prog 27 = true := by kernel_rfl
theorem bo28 : bodyB Tryd.prog 28 = true := by kernel_rfl
theorem bo29 : bodyB Tryd.prog 29 = true := by kernel_rfl
theorem bo30 : bodyB Tryd.prog 30 = true := by kernel_rfl
theorem bo31 : bodyB Tryd.prog 31 = true := by kernel_rfl
theorem bo32 : bodyB Tryd.prog 32 = true := by kernel_rfl
theorem bo33 : bodyB Tryd.prog 33 = true := by kernel_rfl
theorem bo34 : bodyB Tryd.prog 34 = true := by kernel_rfl
theorem bo35 : bodyB Tryd.prog 35 = true := by kernel_rfl
theorem bo36 : bodyB Tryd.prog 36 = true := by kernel_rfl
theorem bo37 : bodyB Tryd.prog 37 = true := by kernel_rfl
theorem bo38 : bodyB Tryd.prog 38 = true := by kernel_rfl
theorem bo39 : bodyB Tryd.prog 39 = true := by kernel_rfl
theorem bo40 : bodyB Tryd.prog 40 = true := by kernel_rfl
theorem bo49 : bodyB Tryd.prog 49 = true := by kernel_rfl
theorem bo50 : bodyB Tryd.prog 50 = true := by kernel_rfl
theorem bo51 : bodyB Tryd.prog 51 = true := by kernel_rfl
theorem bo52 : bodyB Tryd.prog 52 = true := by kernel_rfl
theorem bo62 : bodyB Tryd.prog 62 = true := by kernel_rfl
theorem bo63 : bodyB Tryd.prog 63 = true := by kernel_rfl
theorem bo9 : bodyB Tryd.prog 9 = true := by kernel_rfl
theorem el22 : elemB Tryd.prog 22 = some (9, 1, 16) := by kernel_rfl
theorem el26 : elemB Tryd.prog 26 = some (37, 2, 16) := by kernel_rfl
theorem el38 : elemB Tryd.prog 38 = some (5, 1, 1) := by kernel_rfl
theorem fl24_0 : fieldB Tryd.prog 24 0 = some (0, 1) := by kernel_rfl
theorem fl24_1 : fieldB Tryd.prog 24 1 = some (1, 1) := by kernel_rfl
theorem fl24_2 : fieldB Tryd.prog 24 2 = some (2, 1) := by kernel_rfl
theorem fl37_0 : fieldB Tryd.prog 37 0 = some (0, 1) := by kernel_rfl
theorem fl37_1 : fieldB Tryd.prog 37 1 = some (1, 1) := by kernel_rfl
theorem fl45_0 : fieldB Tryd.prog 45 0 = some (0, 3) := by kernel_rfl
theorem fl45_1 : fieldB Tryd.prog 45 1 = some (3, 1) := by kernel_rfl
theorem fl45_2 : fieldB Tryd.prog 45 2 = some (4, 1) := by kernel_rfl
theorem ik21 : intKB Tryd.prog 21 = some .i32 := by kernel_rfl
theorem ik3 : intKB Tryd.prog 3 = some .i64 := by kernel_rfl
theorem ik5 : intKB Tryd.prog 5 = some .u8 := by kernel_rfl
theorem mixo : Tryd.prog.follows .mixedOrders = true := by kernel_rfl
theorem mt43 : mapB Tryd.prog 43 = some (9, 4) := by kernel_rfl
theorem pl24 : placesB Tryd.prog 24 = some [(0, 1), (1, 1), (2, 1)] := by kernel_rfl
theorem pl37 : placesB Tryd.prog 37 = some [(0, 1), (1, 1)] := by kernel_rfl
theorem pl45 : placesB Tryd.prog 45 = some [(0, 3), (3, 1), (4, 1)] := by kernel_rfl
theorem so22 : sortB Tryd.prog 22 = some 1 := by kernel_rfl
theorem so26 : sortB Tryd.prog 26 = some 1 := by kernel_rfl
theorem so38 : sortB Tryd.prog 38 = some 1 := by kernel_rfl
theorem so4 : sortB Tryd.prog 4 = some 6 := by kernel_rfl
theorem so9 : sortB Tryd.prog 9 = some 0 := by kernel_rfl
theorem ze22 : zeroB Tryd.prog 22 = some [Value.slice none 0 0] := by kernel_rfl
theorem ze24 : zeroB Tryd.prog 24 = some [Value.int .i64 0, Value.int .i64 0, Value.slice none 0 0] := by kernel_rfl
theorem ze26 : zeroB Tryd.prog 26 = some [Value.slice none 0 0] := by kernel_rfl
theorem ze3 : zeroB Tryd.prog 3 = some [Value.int .i64 0] := by kernel_rfl
theorem ze37 : zeroB Tryd.prog 37 = some [Value.int .i64 0, Value.bool false] := by kernel_rfl
theorem ze45 : zeroB Tryd.prog 45 = some [Value.int .i64 0, Value.int .i64 0, Value.slice none 0 0, Value.string (⟨#[]⟩ : ByteArray), Value.map none] := by kernel_rfl
theorem ze5 : zeroB Tryd.prog 5 = some [Value.int .u8 0] := by kernel_rfl
theorem ze58 : zeroB Tryd.prog 58 = some [Value.nilFunc] := by kernel_rfl
theorem ze9 : zeroB Tryd.prog 9 = some [Value.string (⟨#[]⟩ : ByteArray)] := by kernel_rfl
theorem zv4 : zeroV Tryd.prog 4 = some (Value.bool false) := by kernel_rfl
def k_api_Breaks : Kd api_Breaks := Kd.iso (Kd.pair (Kd.int .i64) (Kd.pair (Kd.int .i64) (Kd.slice Kd.str))) (fun x => (x.Before, x.Behind, x.Keep))
theorem open_api_Breaks {G : Gh} {x : api_Breaks} {cs : List Value} (h : k_api_Breaks.K G x cs) : ∃ (A1 : Option Addr) (c2 : Nat), x.Keep.length ≤ c2 ∧ Dat Kd.str G A1 x.Keep ∧ cs = [Value.int .i64 x.Before, Value.int .i64 x.Behind, Value.slice A1 x.Keep.length c2] := by
  obtain ⟨_, _, rfl, rfl, ⟨_, _, rfl, rfl, ⟨A1, c2, rfl, hl3, hD4⟩⟩⟩ := h
  exact ⟨A1, c2, hl3, hD4, rfl⟩
theorem mk_api_Breaks {G : Gh} {x : api_Breaks} {A1 : Option Addr} {c2 : Nat} (hl3 : x.Keep.length ≤ c2) (hD4 : Dat Kd.str G A1 x.Keep) : k_api_Breaks.K G x [Value.int .i64 x.Before, Value.int .i64 x.Behind, Value.slice A1 x.Keep.length c2] := ⟨[Value.int .i64 x.Before], [Value.int .i64 x.Behind, Value.slice A1 x.Keep.length c2], rfl, rfl, ⟨[Value.int .i64 x.Behind], [Value.slice A1 x.Keep.length c2], rfl, rfl, ⟨_, _, rfl, hl3, hD4⟩⟩⟩
def k_api_Break : Kd api_Break := Kd.iso (Kd.pair (Kd.int .i64) Kd.bool) (fun x => (x.At, x.Hyphen))
theorem open_api_Break {G : Gh} {x : api_Break} {cs : List Value} (h : k_api_Break.K G x cs) : cs = [Value.int .i64 x.At, Value.bool x.Hyphen] := by
  obtain ⟨_, _, rfl, rfl, rfl⟩ := h
  exact rfl
theorem mk_api_Break {G : Gh} {x : api_Break} : k_api_Break.K G x [Value.int .i64 x.At, Value.bool x.Hyphen] := ⟨[Value.int .i64 x.At], [Value.bool x.Hyphen], rfl, rfl, rfl⟩
theorem eqg_api_Break : Tryd.prog.eqGuardType Tryd.prog.depth 37 = false := by kernel_rfl
theorem eqs_api_Break (x y : api_Break) : eqDeep Tryd.prog 10000 37 [Value.int .i64 x.At, Value.bool x.Hyphen] [Value.int .i64 y.At, Value.bool y.Hyphen] = some (decide (x.At = y.At) && (decide (x.Hyphen = y.Hyphen) && true)) := by kernel_rfl
theorem eqd_api_Break (x y : api_Break) : (decide (x.At = y.At) && (decide (x.Hyphen = y.Hyphen) && true)) = decide (x = y) := by
  rcases x with ⟨_, _⟩
  rcases y with ⟨_, _⟩
  simp
end Go.Proofs.YtiahgcidgbalkaaDoor.LG
