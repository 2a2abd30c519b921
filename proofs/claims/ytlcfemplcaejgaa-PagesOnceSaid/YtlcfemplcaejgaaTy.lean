/-
 Closed facts of the program's types, and how each struct lies in memory: printed by a program out of the translation.
-/
import Derived.Test.YtlcfemplcaejgaaProg
import Derived.KernelRfl
import Derived.Test.YtlcfemplcaejgaaLgW
import Derived.Test.YtlcfemplcaejgaaLgX
import Derived.Test.YtlcfemplcaejgaaLgY
import Derived.Test.YtlcfemplcaejgaaPd
set_option linter.unusedVariables false
set_option linter.unusedSimpArgs false
set_option maxRecDepth 100000
namespace Go.Proofs.Ytlcfemplcaejgaa.LG
open Go Go.LG Go.RowKit Go.Value
theorem ag1 : aggB Try.prog 1 = some (false, 1) := by kernel_rfl
theorem ag23 : aggB Try.prog 23 = some (true, 6) := by kernel_rfl
theorem ag24 : aggB Try.prog 24 = some (false, 1) := by kernel_rfl
theorem ag25 : aggB Try.prog 25 = some (false, 1) := by kernel_rfl
theorem ag28 : aggB Try.prog 28 = some (false, 1) := by kernel_rfl
theorem ag3 : aggB Try.prog 3 = some (false, 1) := by kernel_rfl
theorem ag34 : aggB Try.prog 34 = some (true, 2) := by kernel_rfl
theorem ag36 : aggB Try.prog 36 = some (true, 8) := by kernel_rfl
theorem ag4 : aggB Try.prog 4 = some (false, 1) := by kernel_rfl
theorem ag56 : aggB Try.prog 56 = some (true, 6) := by kernel_rfl
theorem ag57 : aggB Try.prog 57 = some (false, 1) := by kernel_rfl
theorem ag58 : aggB Try.prog 58 = some (false, 1) := by kernel_rfl
theorem ag64 : aggB Try.prog 64 = some (true, 3) := by kernel_rfl
theorem ag65 : aggB Try.prog 65 = some (false, 1) := by kernel_rfl
theorem ag77 : aggB Try.prog 77 = some (true, 3) := by kernel_rfl
theorem ag9 : aggB Try.prog 9 = some (false, 1) := by kernel_rfl
theorem ag97 : aggB Try.prog 97 = some (true, 2) := by kernel_rfl
theorem ag99 : aggB Try.prog 99 = some (true, 5) := by kernel_rfl
theorem bo12 : bodyB Try.prog 12 = true := by kernel_rfl
theorem bo13 : bodyB Try.prog 13 = true := by kernel_rfl
theorem bo14 : bodyB Try.prog 14 = true := by kernel_rfl
theorem bo15 : bodyB Try.prog 15 = true := by kernel_rfl
theorem bo16 : bodyB Try.prog 16 = true := by kernel_rfl
theorem bo17 : bodyB Try.prog 17 = true := by kernel_rfl
theorem bo18 : bodyB Try.prog 18 = true := by kernel_rfl
theorem bo19 : bodyB Try.prog 19 = true := by kernel_rfl
theorem bo20 : bodyB Try.prog 20 = true := by kernel_rfl
theorem bo21 : bodyB Try.prog 21 = true := by kernel_rfl
theorem bo22 : bodyB Try.prog 22 = true := by kernel_rfl
theorem bo23 : bodyB Try.prog 23 = true := by kernel_rfl
theorem bo24 : bodyB Try.prog 24 = true := by kernel_rfl
theorem bo25 : bodyB Try.prog 25 = true := by kernel_rfl
theorem bo26 : bodyB Try.prog 26 = true := by kernel_rfl
theorem bo27 : bodyB Try.prog 27 = true := by kernel_rfl
theorem bo28 : bodyB Try.prog 28 = true := by kernel_rfl
theorem bo29 : bodyB Try.prog 29 = true := by kernel_rfl
theorem bo30 : bodyB Try.prog 30 = true := by kernel_rfl
theorem bo31 : bodyB Try.prog 31 = true := by kernel_rfl
theorem bo32 : bodyB Try.prog 32 = true := by kernel_rfl
theorem bo33 : bodyB Try.prog 33 = true := by kernel_rfl
theorem bo34 : bodyB Try.prog 34 = true := by kernel_rfl
theorem bo35 : bodyB Try.prog 35 = true := by kernel_rfl
theorem bo36 : bodyB Try.prog 36 = true := by kernel_rfl
theorem bo37 : bodyB Try.prog 37 = true := by kernel_rfl
theorem bo38 : bodyB Try.prog 38 = true := by kernel_rfl
theorem bo39 : bodyB Try.prog 39 = true := by kernel_rfl
theorem bo40 : bodyB Try.prog 40 = true := by kernel_rfl
theorem bo41 : bodyB Try.prog 41 = true := by kernel_rfl
theorem bo42 : bodyB Try.prog 42 = true := by kernel_rfl
theorem bo43 : bodyB Try.prog 43 = true := by kernel_rfl
theorem bo44 : bodyB Try.prog 44 = true := by kernel_rfl
theorem bo45 : bodyB Try.prog 45 = true := by kernel_rfl
theorem bo46 : bodyB Try.prog 46 = true := by kernel_rfl
theorem bo47 : bodyB Try.prog 47 = true := by kernel_rfl
theorem bo48 : bodyB Try.prog 48 = true := by kernel_rfl
theorem bo49 : bodyB Try.prog 49 = true := by kernel_rfl
theorem bo50 : bodyB Try.prog 50 = true := by kernel_rfl
theorem bo51 : bodyB Try.prog 51 = true := by kernel_rfl
theorem bo52 : bodyB Try.prog 52 = true := by kernel_rfl
theorem bo53 : bodyB Try.prog 53 = true := by kernel_rfl
theorem bo54 : bodyB Try.prog 54 = true := by kernel_rfl
theorem bo55 : bodyB Try.prog 55 = true := by kernel_rfl
theorem bo56 : bodyB Try.prog 56 = true := by kernel_rfl
theorem bo57 : bodyB Try.prog 57 = true := by kernel_rfl
theorem bo58 : bodyB Try.prog 58 = true := by kernel_rfl
theorem bo59 : bodyB Try.prog 59 = true := by kernel_rfl
theorem bo6 : bodyB Try.prog 6 = true := by kernel_rfl
theorem bo60 : bodyB Try.prog 60 = true := by kernel_rfl
theorem bo61 : bodyB Try.prog 61 = true := by kernel_rfl
theorem bo62 : bodyB Try.prog 62 = true := by kernel_rfl
theorem bo63 : bodyB Try.prog 63 = true := by kernel_rfl
theorem bo64 : bodyB Try.prog 64 = true := by kernel_rfl
theorem bo7 : bodyB Try.prog 7 = true := by kernel_rfl
theorem bo8 : bodyB Try.prog 8 = true := by kernel_rfl
theorem bo9 : bodyB Try.prog 9 = true := by kernel_rfl
theorem el24 : elemB Try.prog 24 = some (36, 8, 64) := by kernel_rfl
theorem el25 : elemB Try.prog 25 = some (4, 1, 1) := by kernel_rfl
theorem el28 : elemB Try.prog 28 = some (34, 2, 32) := by kernel_rfl
theorem el57 : elemB Try.prog 57 = some (64, 3, 56) := by kernel_rfl
theorem el65 : elemB Try.prog 65 = some (3, 1, 8) := by kernel_rfl
theorem el93 : elemB Try.prog 93 = some (99, 5, 40) := by kernel_rfl
theorem fl23_0 : fieldB Try.prog 23 0 = some (0, 1) := by kernel_rfl
theorem fl23_1 : fieldB Try.prog 23 1 = some (1, 1) := by kernel_rfl
theorem fl23_2 : fieldB Try.prog 23 2 = some (2, 1) := by kernel_rfl
theorem fl23_3 : fieldB Try.prog 23 3 = some (3, 1) := by kernel_rfl
theorem fl23_4 : fieldB Try.prog 23 4 = some (4, 1) := by kernel_rfl
theorem fl23_5 : fieldB Try.prog 23 5 = some (5, 1) := by kernel_rfl
theorem fl34_0 : fieldB Try.prog 34 0 = some (0, 1) := by kernel_rfl
theorem fl34_1 : fieldB Try.prog 34 1 = some (1, 1) := by kernel_rfl
theorem fl36_0 : fieldB Try.prog 36 0 = some (0, 1) := by kernel_rfl
theorem fl36_1 : fieldB Try.prog 36 1 = some (1, 1) := by kernel_rfl
theorem fl36_2 : fieldB Try.prog 36 2 = some (2, 1) := by kernel_rfl
theorem fl36_3 : fieldB Try.prog 36 3 = some (3, 1) := by kernel_rfl
theorem fl36_4 : fieldB Try.prog 36 4 = some (4, 1) := by kernel_rfl
theorem fl36_5 : fieldB Try.prog 36 5 = some (5, 1) := by kernel_rfl
theorem fl36_6 : fieldB Try.prog 36 6 = some (6, 1) := by kernel_rfl
theorem fl36_7 : fieldB Try.prog 36 7 = some (7, 1) := by kernel_rfl
theorem fl56_0 : fieldB Try.prog 56 0 = some (0, 6) := by kernel_rfl
theorem fl64_0 : fieldB Try.prog 64 0 = some (0, 1) := by kernel_rfl
theorem fl64_1 : fieldB Try.prog 64 1 = some (1, 1) := by kernel_rfl
theorem fl64_2 : fieldB Try.prog 64 2 = some (2, 1) := by kernel_rfl
theorem fl67_0 : fieldB Try.prog 67 0 = some (0, 6) := by kernel_rfl
theorem fl67_1 : fieldB Try.prog 67 1 = some (6, 1) := by kernel_rfl
theorem fl67_2 : fieldB Try.prog 67 2 = some (7, 1) := by kernel_rfl
theorem fl67_3 : fieldB Try.prog 67 3 = some (8, 1) := by kernel_rfl
theorem fl77_0 : fieldB Try.prog 77 0 = some (0, 1) := by kernel_rfl
theorem fl77_1 : fieldB Try.prog 77 1 = some (1, 1) := by kernel_rfl
theorem fl77_2 : fieldB Try.prog 77 2 = some (2, 1) := by kernel_rfl
theorem fl97_0 : fieldB Try.prog 97 0 = some (0, 1) := by kernel_rfl
theorem fl97_1 : fieldB Try.prog 97 1 = some (1, 1) := by kernel_rfl
theorem fl99_0 : fieldB Try.prog 99 0 = some (0, 1) := by kernel_rfl
theorem fl99_1 : fieldB Try.prog 99 1 = some (1, 2) := by kernel_rfl
theorem fl99_2 : fieldB Try.prog 99 2 = some (3, 2) := by kernel_rfl
theorem ik21 : intKB Try.prog 21 = some .i32 := by kernel_rfl
theorem ik5 : intKB Try.prog 5 = some .u8 := by kernel_rfl
theorem mixo : Try.prog.follows .mixedOrders = true := by kernel_rfl
theorem mt32 : mapB Try.prog 32 = some (36, 3) := by kernel_rfl
theorem pl23 : placesB Try.prog 23 = some [(0, 1), (1, 1), (2, 1), (3, 1), (4, 1), (5, 1)] := by kernel_rfl
theorem pl34 : placesB Try.prog 34 = some [(0, 1), (1, 1)] := by kernel_rfl
theorem pl36 : placesB Try.prog 36 = some [(0, 1), (1, 1), (2, 1), (3, 1), (4, 1), (5, 1), (6, 1), (7, 1)] := by kernel_rfl
theorem pl56 : placesB Try.prog 56 = some [(0, 6)] := by kernel_rfl
theorem pl64 : placesB Try.prog 64 = some [(0, 1), (1, 1), (2, 1)] := by kernel_rfl
theorem pl67 : placesB Try.prog 67 = some [(0, 6), (6, 1), (7, 1), (8, 1)] := by kernel_rfl
theorem pl77 : placesB Try.prog 77 = some [(0, 1), (1, 1), (2, 1)] := by kernel_rfl
theorem pl97 : placesB Try.prog 97 = some [(0, 1), (1, 1)] := by kernel_rfl
theorem pl99 : placesB Try.prog 99 = some [(0, 1), (1, 2), (3, 2)] := by kernel_rfl
theorem so24 : sortB Try.prog 24 = some 1 := by kernel_rfl
theorem so25 : sortB Try.prog 25 = some 1 := by kernel_rfl
theorem so28 : sortB Try.prog 28 = some 1 := by kernel_rfl
theorem so57 : sortB Try.prog 57 = some 1 := by kernel_rfl
theorem so58 : sortB Try.prog 58 = some 3 := by kernel_rfl
theorem so65 : sortB Try.prog 65 = some 1 := by kernel_rfl
theorem so9 : sortB Try.prog 9 = some 0 := by kernel_rfl
theorem so93 : sortB Try.prog 93 = some 1 := by kernel_rfl
theorem ze1 : zeroB Try.prog 1 = some [Value.nilFunc] := by kernel_rfl
theorem ze23 : zeroB Try.prog 23 = some [Value.int .i64 0, Value.int .i64 0, Value.int .i64 0, Value.int .i64 0, Value.int .i64 0, Value.int .i64 0] := by kernel_rfl
theorem ze28 : zeroB Try.prog 28 = some [Value.slice none 0 0] := by kernel_rfl
theorem ze3 : zeroB Try.prog 3 = some [Value.int .i64 0] := by kernel_rfl
theorem ze34 : zeroB Try.prog 34 = some [Value.int .i64 0, Value.slice none 0 0] := by kernel_rfl
theorem ze36 : zeroB Try.prog 36 = some [Value.int .i64 0, Value.int .i64 0, Value.int .i64 0, Value.int .i64 0, Value.int .i64 0, Value.string (⟨#[]⟩ : ByteArray), Value.bool false, Value.bool false] := by kernel_rfl
theorem ze4 : zeroB Try.prog 4 = some [Value.bool false] := by kernel_rfl
theorem ze56 : zeroB Try.prog 56 = some [Value.int .i64 0, Value.int .i64 0, Value.int .i64 0, Value.int .i64 0, Value.int .i64 0, Value.int .i64 0] := by kernel_rfl
theorem ze57 : zeroB Try.prog 57 = some [Value.slice none 0 0] := by kernel_rfl
theorem ze58 : zeroB Try.prog 58 = some [Value.pointer none] := by kernel_rfl
theorem ze64 : zeroB Try.prog 64 = some [Value.slice none 0 0, Value.slice none 0 0, Value.int .i64 0] := by kernel_rfl
theorem ze67 : zeroB Try.prog 67 = some [Value.int .i64 0, Value.int .i64 0, Value.int .i64 0, Value.int .i64 0, Value.int .i64 0, Value.int .i64 0, Value.slice none 0 0, Value.slice none 0 0, Value.slice none 0 0] := by kernel_rfl
theorem ze77 : zeroB Try.prog 77 = some [Value.int .i64 0, Value.int .i64 0, Value.int .i64 0] := by kernel_rfl
theorem ze97 : zeroB Try.prog 97 = some [Value.int .i64 0, Value.int .i64 0] := by kernel_rfl
theorem ze99 : zeroB Try.prog 99 = some [Value.int .i64 0, Value.int .i64 0, Value.int .i64 0, Value.int .i64 0, Value.int .i64 0] := by kernel_rfl
theorem zv3 : zeroV Try.prog 3 = some (Value.int .i64 0) := by kernel_rfl
def k_api_Range : Kd api_Range := Kd.iso (Kd.pair (Kd.int .i64) (Kd.int .i64)) (fun x => (x.Lo, x.Hi))
theorem open_api_Range {G : Gh} {x : api_Range} {cs : List Value} (h : k_api_Range.K G x cs) : cs = [Value.int .i64 x.Lo, Value.int .i64 x.Hi] := by
 obtain ⟨_, _, rfl, rfl, rfl⟩ := h
 exact rfl
def k_api_Zone : Kd api_Zone := Kd.iso (Kd.pair (Kd.int .i64) (Kd.pair k_api_Range k_api_Range)) (fun x => (x.Lang, x.Scale, x.Width))
theorem open_api_Zone {G : Gh} {x : api_Zone} {cs : List Value} (h : k_api_Zone.K G x cs) : cs = [Value.int .i64 x.Lang, Value.int .i64 x.Scale.Lo, Value.int .i64 x.Scale.Hi, Value.int .i64 x.Width.Lo, Value.int .i64 x.Width.Hi] := by
 obtain ⟨_, _, rfl, rfl, ⟨_, _, rfl, hs1, hs2⟩⟩ := h
 obtain ⟨rfl⟩ := open_api_Range hs2
 obtain ⟨rfl⟩ := open_api_Range hs1
 exact rfl
def k_api_Paper : Kd api_Paper := Kd.iso (Kd.pair (Kd.int .i64) (Kd.pair (Kd.int .i64) (Kd.pair (Kd.int .i64) (Kd.pair (Kd.int .i64) (Kd.pair (Kd.int .i64) (Kd.int .i64)))))) (fun x => (x.Width, x.Height, x.Columns, x.Gap, x.Scale, x.Lang))
theorem open_api_Paper {G : Gh} {x : api_Paper} {cs : List Value} (h : k_api_Paper.K G x cs) : cs = [Value.int .i64 x.Width, Value.int .i64 x.Height, Value.int .i64 x.Columns, Value.int .i64 x.Gap, Value.int .i64 x.Scale, Value.int .i64 x.Lang] := by
 obtain ⟨_, _, rfl, rfl, ⟨_, _, rfl, rfl, ⟨_, _, rfl, rfl, ⟨_, _, rfl, rfl, ⟨_, _, rfl, rfl, rfl⟩⟩⟩⟩⟩ := h
 exact rfl
def k_api_Slice : Kd api_Slice := Kd.iso (Kd.pair (Kd.int .i64) (Kd.pair (Kd.int .i64) (Kd.pair (Kd.int .i64) (Kd.pair (Kd.int .i64) (Kd.pair (Kd.int .i64) (Kd.pair Kd.str (Kd.pair Kd.bool Kd.bool))))))) (fun x => (x.Node, x.Table, x.X, x.Y, x.H, x.Text, x.Head, x.Note))
theorem open_api_Slice {G : Gh} {x : api_Slice} {cs : List Value} (h : k_api_Slice.K G x cs) : cs = [Value.int .i64 x.Node, Value.int .i64 x.Table, Value.int .i64 x.X, Value.int .i64 x.Y, Value.int .i64 x.H, Value.string x.Text, Value.bool x.Head, Value.bool x.Note] := by
 obtain ⟨_, _, rfl, rfl, ⟨_, _, rfl, rfl, ⟨_, _, rfl, rfl, ⟨_, _, rfl, rfl, ⟨_, _, rfl, rfl, ⟨_, _, rfl, rfl, ⟨_, _, rfl, rfl, rfl⟩⟩⟩⟩⟩⟩⟩ := h
 exact rfl
theorem mk_api_Slice {G : Gh} {x : api_Slice} : k_api_Slice.K G x [Value.int .i64 x.Node, Value.int .i64 x.Table, Value.int .i64 x.X, Value.int .i64 x.Y, Value.int .i64 x.H, Value.string x.Text, Value.bool x.Head, Value.bool x.Note] := ⟨[Value.int .i64 x.Node], [Value.int .i64 x.Table, Value.int .i64 x.X, Value.int .i64 x.Y, Value.int .i64 x.H, Value.string x.Text, Value.bool x.Head, Value.bool x.Note], rfl, rfl, ⟨[Value.int .i64 x.Table], [Value.int .i64 x.X, Value.int .i64 x.Y, Value.int .i64 x.H, Value.string x.Text, Value.bool x.Head, Value.bool x.Note], rfl, rfl, ⟨[Value.int .i64 x.X], [Value.int .i64 x.Y, Value.int .i64 x.H, Value.string x.Text, Value.bool x.Head, Value.bool x.Note], rfl, rfl, ⟨[Value.int .i64 x.Y], [Value.int .i64 x.H, Value.string x.Text, Value.bool x.Head, Value.bool x.Note], rfl, rfl, ⟨[Value.int .i64 x.H], [Value.string x.Text, Value.bool x.Head, Value.bool x.Note], rfl, rfl, ⟨[Value.string x.Text], [Value.bool x.Head, Value.bool x.Note], rfl, rfl, ⟨[Value.bool x.Head], [Value.bool x.Note], rfl, rfl, rfl⟩⟩⟩⟩⟩⟩⟩
theorem eqg_api_Slice : Try.prog.eqGuardType Try.prog.depth 36 = false := by kernel_rfl
theorem eqs_api_Slice (x y : api_Slice) : eqDeep Try.prog 10000 36 [Value.int .i64 x.Node, Value.int .i64 x.Table, Value.int .i64 x.X, Value.int .i64 x.Y, Value.int .i64 x.H, Value.string x.Text, Value.bool x.Head, Value.bool x.Note] [Value.int .i64 y.Node, Value.int .i64 y.Table, Value.int .i64 y.X, Value.int .i64 y.Y, Value.int .i64 y.H, Value.string y.Text, Value.bool y.Head, Value.bool y.Note] = some (decide (x.Node = y.Node) && (decide (x.Table = y.Table) && (decide (x.X = y.X) && (decide (x.Y = y.Y) && (decide (x.H = y.H) && (decide (x.Text = y.Text) && (decide (x.Head = y.Head) && (decide (x.Note = y.Note) && true)))))))) := by kernel_rfl
theorem eqd_api_Slice (x y : api_Slice) : (decide (x.Node = y.Node) && (decide (x.Table = y.Table) && (decide (x.X = y.X) && (decide (x.Y = y.Y) && (decide (x.H = y.H) && (decide (x.Text = y.Text) && (decide (x.Head = y.Head) && (decide (x.Note = y.Note) && true)))))))) = decide (x = y) := by
 rcases x with ⟨_, _, _, _, _, _, _, _⟩
 rcases y with ⟨_, _, _, _, _, _, _, _⟩
 simp
abbrev ek_api_Slice (x : api_Slice) : Value := .agg [Value.int .i64 x.Node, Value.int .i64 x.Table, Value.int .i64 x.X, Value.int .i64 x.Y, Value.int .i64 x.H, Value.string x.Text, Value.bool x.Head, Value.bool x.Note].toArray
theorem kys_api_Slice : Ky Try.prog 36 ek_api_Slice := ky_struct (cs := fun x : api_Slice => [Value.int .i64 x.Node, Value.int .i64 x.Table, Value.int .i64 x.X, Value.int .i64 x.Y, Value.int .i64 x.H, Value.string x.Text, Value.bool x.Head, Value.bool x.Note]) (by kernel_rfl) (fun x y => (eqs_api_Slice x y).trans (congrArg some (eqd_api_Slice x y)))
 (fun x => by simp only [List.forall_mem_cons]; exact ⟨sb_int _ _ _, sb_int _ _ _, sb_int _ _ _, sb_int _ _ _, sb_int _ _ _, sb_str _ _, sb_bool _ _, sb_bool _ _, fun _ h => nomatch h⟩) (fun x => by kernel_rfl)
def k_pages_band : Kd pages_band := Kd.iso (Kd.pair (Kd.slice k_api_Slice) (Kd.pair (Kd.slice k_api_Slice) (Kd.int .i64))) (fun x => (x.slices, x.notes, x.end_))
theorem open_pages_band {G : Gh} {x : pages_band} {cs : List Value} (h : k_pages_band.K G x cs) : ∃ (A1 : Option Addr) (c2 : Nat), x.slices.length ≤ c2 ∧ Dat k_api_Slice G A1 x.slices ∧ ∃ (A5 : Option Addr) (c6 : Nat), x.notes.length ≤ c6 ∧ Dat k_api_Slice G A5 x.notes ∧ cs = [Value.slice A1 x.slices.length c2, Value.slice A5 x.notes.length c6, Value.int .i64 x.end_] := by
 obtain ⟨_, _, rfl, ⟨A1, c2, rfl, hl3, hD4⟩, ⟨_, _, rfl, ⟨A5, c6, rfl, hl7, hD8⟩, rfl⟩⟩ := h
 exact ⟨A1, c2, hl3, hD4, ⟨A5, c6, hl7, hD8, rfl⟩⟩
theorem mk_pages_band {G : Gh} {x : pages_band} {A1 : Option Addr} {c2 : Nat} {A5 : Option Addr} {c6 : Nat} (hl3 : x.slices.length ≤ c2) (hD4 : Dat k_api_Slice G A1 x.slices) (hl7 : x.notes.length ≤ c6) (hD8 : Dat k_api_Slice G A5 x.notes) : k_pages_band.K G x [Value.slice A1 x.slices.length c2, Value.slice A5 x.notes.length c6, Value.int .i64 x.end_] := ⟨[Value.slice A1 x.slices.length c2], [Value.slice A5 x.notes.length c6, Value.int .i64 x.end_], rfl, ⟨_, _, rfl, hl3, hD4⟩, ⟨[Value.slice A5 x.notes.length c6], [Value.int .i64 x.end_], rfl, ⟨_, _, rfl, hl7, hD8⟩, rfl⟩⟩
def k_api_Page : Kd api_Page := Kd.iso (Kd.pair (Kd.int .i64) (Kd.slice k_api_Slice)) (fun x => (x.Number, x.Slices))
theorem open_api_Page {G : Gh} {x : api_Page} {cs : List Value} (h : k_api_Page.K G x cs) : ∃ (A1 : Option Addr) (c2 : Nat), x.Slices.length ≤ c2 ∧ Dat k_api_Slice G A1 x.Slices ∧ cs = [Value.int .i64 x.Number, Value.slice A1 x.Slices.length c2] := by
 obtain ⟨_, _, rfl, rfl, ⟨A1, c2, rfl, hl3, hD4⟩⟩ := h
 exact ⟨A1, c2, hl3, hD4, rfl⟩
theorem mk_api_Page {G : Gh} {x : api_Page} {A1 : Option Addr} {c2 : Nat} (hl3 : x.Slices.length ≤ c2) (hD4 : Dat k_api_Slice G A1 x.Slices) : k_api_Page.K G x [Value.int .i64 x.Number, Value.slice A1 x.Slices.length c2] := ⟨[Value.int .i64 x.Number], [Value.slice A1 x.Slices.length c2], rfl, rfl, ⟨_, _, rfl, hl3, hD4⟩⟩
end Go.Proofs.Ytlcfemplcaejgaa.LG
