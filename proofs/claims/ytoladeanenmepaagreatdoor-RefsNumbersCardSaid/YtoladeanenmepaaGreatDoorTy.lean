/-
 Closed facts of the program's types, and how each struct lies in memory: printed by a program out of the translation.
-/
import Derived.Test.YtoladeanenmepaaGreatDoorProg
import Derived.KernelRfl
import Derived.Test.YtoladeanenmepaaGreatDoorLgW
import Derived.Test.YtoladeanenmepaaGreatDoorLgZ
import Derived.Test.YtoladeanenmepaaGreatDoorPd
set_option linter.unusedVariables false
set_option linter.unusedSimpArgs false
set_option maxRecDepth 100000
namespace Go.Proofs.YtoladeanenmepaaGreatDoor.LG
open Go Go.LG Go.RowKit Go.Value
theorem ag114 : aggB Tryz.prog 114 = some (true, 3) := by kernel_rfl
theorem ag22 : aggB Tryz.prog 22 = some (false, 1) := by kernel_rfl
theorem ag25 : aggB Tryz.prog 25 = some (false, 1) := by kernel_rfl
theorem ag3 : aggB Tryz.prog 3 = some (false, 1) := by kernel_rfl
theorem ag38 : aggB Tryz.prog 38 = some (false, 1) := by kernel_rfl
theorem ag40 : aggB Tryz.prog 40 = some (true, 2) := by kernel_rfl
theorem ag42 : aggB Tryz.prog 42 = some (true, 8) := by kernel_rfl
theorem ag50 : aggB Tryz.prog 50 = some (true, 4) := by kernel_rfl
theorem ag52 : aggB Tryz.prog 52 = some (true, 6) := by kernel_rfl
theorem ag61 : aggB Tryz.prog 61 = some (false, 1) := by kernel_rfl
theorem ag84 : aggB Tryz.prog 84 = some (true, 6) := by kernel_rfl
theorem ag9 : aggB Tryz.prog 9 = some (false, 1) := by kernel_rfl
theorem bo10 : bodyB Tryz.prog 10 = true := by kernel_rfl
theorem bo11 : bodyB Tryz.prog 11 = true := by kernel_rfl
theorem bo12 : bodyB Tryz.prog 12 = true := by kernel_rfl
theorem bo13 : bodyB Tryz.prog 13 = true := by kernel_rfl
theorem bo14 : bodyB Tryz.prog 14 = true := by kernel_rfl
theorem bo15 : bodyB Tryz.prog 15 = true := by kernel_rfl
theorem bo16 : bodyB Tryz.prog 16 = true := by kernel_rfl
theorem bo17 : bodyB Tryz.prog 17 = true := by kernel_rfl
theorem bo18 : bodyB Tryz.prog 18 = true := by kernel_rfl
theorem bo19 : bodyB Tryz.prog 19 = true := by kernel_rfl
theorem bo20 : bodyB Tryz.prog 20 = true := by kernel_rfl
theorem bo21 : bodyB Tryz.prog 21 = true := by kernel_rfl
theorem bo22 : bodyB Tryz.prog 22 = true := by kernel_rfl
theorem bo26 : bodyB Tryz.prog 26 = true := by kernel_rfl
theorem bo27 : bodyB Tryz.prog 27 = true := by kernel_rfl
theorem bo28 : bodyB Tryz.prog 28 = true := by kernel_rfl
theorem bo29 : bodyB Tryz.prog 29 = true := by kernel_rfl
theorem bo30 : bodyB Tryz.prog 30 = true := by kernel_rfl
theorem bo31 : bodyB Tryz.prog 31 = true := by kernel_rfl
theorem bo32 : bodyB Tryz.prog 32 = true := by kernel_rfl
theorem bo33 : bodyB Tryz.prog 33 = true := by kernel_rfl
theorem bo34 : bodyB Tryz.prog 34 = true := by kernel_rfl
theorem bo35 : bodyB Tryz.prog 35 = true := by kernel_rfl
theorem bo5 : bodyB Tryz.prog 5 = true := by kernel_rfl
theorem bo52 : bodyB Tryz.prog 52 = true := by kernel_rfl
theorem bo55 : bodyB Tryz.prog 55 = true := by kernel_rfl
theorem bo56 : bodyB Tryz.prog 56 = true := by kernel_rfl
theorem bo58 : bodyB Tryz.prog 58 = true := by kernel_rfl
theorem bo59 : bodyB Tryz.prog 59 = true := by kernel_rfl
theorem bo6 : bodyB Tryz.prog 6 = true := by kernel_rfl
theorem bo7 : bodyB Tryz.prog 7 = true := by kernel_rfl
theorem bo78 : bodyB Tryz.prog 78 = true := by kernel_rfl
theorem bo8 : bodyB Tryz.prog 8 = true := by kernel_rfl
theorem bo9 : bodyB Tryz.prog 9 = true := by kernel_rfl
theorem el22 : elemB Tryz.prog 22 = some (40, 2, 32) := by kernel_rfl
theorem el25 : elemB Tryz.prog 25 = some (3, 1, 8) := by kernel_rfl
theorem el38 : elemB Tryz.prog 38 = some (42, 8, 64) := by kernel_rfl
theorem el61 : elemB Tryz.prog 61 = some (5, 1, 1) := by kernel_rfl
theorem fl40_0 : fieldB Tryz.prog 40 0 = some (0, 1) := by kernel_rfl
theorem fl40_1 : fieldB Tryz.prog 40 1 = some (1, 1) := by kernel_rfl
theorem fl42_0 : fieldB Tryz.prog 42 0 = some (0, 1) := by kernel_rfl
theorem fl52_0 : fieldB Tryz.prog 52 0 = some (0, 1) := by kernel_rfl
theorem fl52_1 : fieldB Tryz.prog 52 1 = some (1, 1) := by kernel_rfl
theorem fl52_2 : fieldB Tryz.prog 52 2 = some (2, 1) := by kernel_rfl
theorem fl52_3 : fieldB Tryz.prog 52 3 = some (3, 1) := by kernel_rfl
theorem fl52_4 : fieldB Tryz.prog 52 4 = some (4, 1) := by kernel_rfl
theorem fl52_5 : fieldB Tryz.prog 52 5 = some (5, 1) := by kernel_rfl
theorem fl75_1 : fieldB Tryz.prog 75 1 = some (1, 1) := by kernel_rfl
theorem fl84_0 : fieldB Tryz.prog 84 0 = some (0, 6) := by kernel_rfl
theorem if77 : Tryz.prog.underlying 77 = some (.interface (Tryz.prog.methodsAt 77)) := by kernel_rfl
theorem ik122 : intKB Tryz.prog 122 = some .u64 := by kernel_rfl
theorem ik21 : intKB Tryz.prog 21 = some .i32 := by kernel_rfl
theorem ik3 : intKB Tryz.prog 3 = some .i64 := by kernel_rfl
theorem ik5 : intKB Tryz.prog 5 = some .u8 := by kernel_rfl
theorem mixo : Tryz.prog.follows .mixedOrders = true := by kernel_rfl
theorem pl114 : placesB Tryz.prog 114 = some [(0, 1), (1, 1), (2, 1)] := by kernel_rfl
theorem pl40 : placesB Tryz.prog 40 = some [(0, 1), (1, 1)] := by kernel_rfl
theorem pl42 : placesB Tryz.prog 42 = some [(0, 1), (1, 1), (2, 1), (3, 1), (4, 1), (5, 1), (6, 1), (7, 1)] := by kernel_rfl
theorem pl50 : placesB Tryz.prog 50 = some [(0, 1), (1, 1), (2, 1), (3, 1)] := by kernel_rfl
theorem pl52 : placesB Tryz.prog 52 = some [(0, 1), (1, 1), (2, 1), (3, 1), (4, 1), (5, 1)] := by kernel_rfl
theorem pl84 : placesB Tryz.prog 84 = some [(0, 6)] := by kernel_rfl
theorem so22 : sortB Tryz.prog 22 = some 1 := by kernel_rfl
theorem so25 : sortB Tryz.prog 25 = some 1 := by kernel_rfl
theorem so38 : sortB Tryz.prog 38 = some 1 := by kernel_rfl
theorem so9 : sortB Tryz.prog 9 = some 0 := by kernel_rfl
theorem ze114 : zeroB Tryz.prog 114 = some [Value.int .i64 0, Value.int .i64 0, Value.int .i64 0] := by kernel_rfl
theorem ze25 : zeroB Tryz.prog 25 = some [Value.slice none 0 0] := by kernel_rfl
theorem ze3 : zeroB Tryz.prog 3 = some [Value.int .i64 0] := by kernel_rfl
theorem ze40 : zeroB Tryz.prog 40 = some [Value.int .i64 0, Value.slice none 0 0] := by kernel_rfl
theorem ze42 : zeroB Tryz.prog 42 = some [Value.int .i64 0, Value.int .i64 0, Value.int .i64 0, Value.int .i64 0, Value.int .i64 0, Value.string (⟨#[]⟩ : ByteArray), Value.bool false, Value.bool false] := by kernel_rfl
theorem ze5 : zeroB Tryz.prog 5 = some [Value.int .u8 0] := by kernel_rfl
theorem ze50 : zeroB Tryz.prog 50 = some [Value.slice none 0 0, Value.slice none 0 0, Value.slice none 0 0, Value.slice none 0 0] := by kernel_rfl
theorem ze52 : zeroB Tryz.prog 52 = some [Value.int .i64 0, Value.int .i64 0, Value.int .i64 0, Value.int .i64 0, Value.int .i64 0, Value.int .i64 0] := by kernel_rfl
theorem ze75 : zeroB Tryz.prog 75 = some [Value.pointer none, Value.slice none 0 0] := by kernel_rfl
theorem ze84 : zeroB Tryz.prog 84 = some [Value.int .i64 0, Value.int .i64 0, Value.int .i64 0, Value.int .i64 0, Value.int .i64 0, Value.int .i64 0] := by kernel_rfl
def k_api_Slice : Kd api_Slice := Kd.iso (Kd.pair (Kd.int .i64) (Kd.pair (Kd.int .i64) (Kd.pair (Kd.int .i64) (Kd.pair (Kd.int .i64) (Kd.pair (Kd.int .i64) (Kd.pair Kd.str (Kd.pair Kd.bool Kd.bool))))))) (fun x => (x.Node, x.Table, x.X, x.Y, x.H, x.Text, x.Head, x.Note))
theorem open_api_Slice {G : Gh} {x : api_Slice} {cs : List Value} (h : k_api_Slice.K G x cs) : cs = [Value.int .i64 x.Node, Value.int .i64 x.Table, Value.int .i64 x.X, Value.int .i64 x.Y, Value.int .i64 x.H, Value.string x.Text, Value.bool x.Head, Value.bool x.Note] := by
 obtain ⟨_, _, rfl, rfl, ⟨_, _, rfl, rfl, ⟨_, _, rfl, rfl, ⟨_, _, rfl, rfl, ⟨_, _, rfl, rfl, ⟨_, _, rfl, rfl, ⟨_, _, rfl, rfl, rfl⟩⟩⟩⟩⟩⟩⟩ := h
 exact rfl
theorem mk_api_Slice {G : Gh} {x : api_Slice} : k_api_Slice.K G x [Value.int .i64 x.Node, Value.int .i64 x.Table, Value.int .i64 x.X, Value.int .i64 x.Y, Value.int .i64 x.H, Value.string x.Text, Value.bool x.Head, Value.bool x.Note] := ⟨[Value.int .i64 x.Node], [Value.int .i64 x.Table, Value.int .i64 x.X, Value.int .i64 x.Y, Value.int .i64 x.H, Value.string x.Text, Value.bool x.Head, Value.bool x.Note], rfl, rfl, ⟨[Value.int .i64 x.Table], [Value.int .i64 x.X, Value.int .i64 x.Y, Value.int .i64 x.H, Value.string x.Text, Value.bool x.Head, Value.bool x.Note], rfl, rfl, ⟨[Value.int .i64 x.X], [Value.int .i64 x.Y, Value.int .i64 x.H, Value.string x.Text, Value.bool x.Head, Value.bool x.Note], rfl, rfl, ⟨[Value.int .i64 x.Y], [Value.int .i64 x.H, Value.string x.Text, Value.bool x.Head, Value.bool x.Note], rfl, rfl, ⟨[Value.int .i64 x.H], [Value.string x.Text, Value.bool x.Head, Value.bool x.Note], rfl, rfl, ⟨[Value.string x.Text], [Value.bool x.Head, Value.bool x.Note], rfl, rfl, ⟨[Value.bool x.Head], [Value.bool x.Note], rfl, rfl, rfl⟩⟩⟩⟩⟩⟩⟩
def k_api_Page : Kd api_Page := Kd.iso (Kd.pair (Kd.int .i64) (Kd.slice k_api_Slice)) (fun x => (x.Number, x.Slices))
theorem open_api_Page {G : Gh} {x : api_Page} {cs : List Value} (h : k_api_Page.K G x cs) : ∃ (A1 : Option Addr) (c2 : Nat), x.Slices.length ≤ c2 ∧ Dat k_api_Slice G A1 x.Slices ∧ cs = [Value.int .i64 x.Number, Value.slice A1 x.Slices.length c2] := by
 obtain ⟨_, _, rfl, rfl, ⟨A1, c2, rfl, hl3, hD4⟩⟩ := h
 exact ⟨A1, c2, hl3, hD4, rfl⟩
theorem mk_api_Page {G : Gh} {x : api_Page} {A1 : Option Addr} {c2 : Nat} (hl3 : x.Slices.length ≤ c2) (hD4 : Dat k_api_Slice G A1 x.Slices) : k_api_Page.K G x [Value.int .i64 x.Number, Value.slice A1 x.Slices.length c2] := ⟨[Value.int .i64 x.Number], [Value.slice A1 x.Slices.length c2], rfl, rfl, ⟨_, _, rfl, hl3, hD4⟩⟩
def k_api_Node : Kd api_Node := Kd.iso (Kd.pair (Kd.int .i64) (Kd.pair (Kd.int .i64) (Kd.pair (Kd.int .i64) (Kd.pair (Kd.int .i64) Kd.str)))) (fun x => (x.ID, x.Parent, x.Kind, x.Class, x.Text))
def k_api_Glyph : Kd api_Glyph := Kd.iso (Kd.pair (Kd.int .u8) (Kd.int .i64)) (fun x => (x.Byte, x.Advance))
def k_api_Kern : Kd api_Kern := Kd.iso (Kd.pair (Kd.int .u8) (Kd.pair (Kd.int .u8) (Kd.int .i64))) (fun x => (x.Left, x.Right, x.By))
def k_api_Font : Kd api_Font := Kd.iso (Kd.pair (Kd.slice k_api_Glyph) (Kd.slice k_api_Kern)) (fun x => (x.Glyphs, x.Kerns))
def k_api_Breaks : Kd api_Breaks := Kd.iso (Kd.pair (Kd.int .i64) (Kd.pair (Kd.int .i64) (Kd.slice Kd.str))) (fun x => (x.Before, x.Behind, x.Keep))
end Go.Proofs.YtoladeanenmepaaGreatDoor.LG
