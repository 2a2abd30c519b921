/-
 Closed facts of the program's types, and how each struct lies in memory: printed by a program out of the translation.
-/
import Derived.Test.YtlcfemplcaejgaaProg
import Derived.KernelRfl
import Derived.Test.YtlcfemplcaejgaaLgW
import Derived.Test.YtlcfemplcaejgaaLgX
import Derived.Test.YtlcfemplcaejgaaLgY
import Derived.Test.YtlcfemplcaejgaaLgL
import Derived.Test.YtlcfemplcaejgaaPd
set_option linter.unusedVariables false
set_option linter.unusedSimpArgs false
set_option maxRecDepth 100000
namespace Go.Proofs.Ytlcfemplcaejgaa.LG
open Go Go.LG Go.RowKit Go.Value
theorem ag1 : er Try.prog 1 = some (false, 1) := by kernel_rfl
theorem k6 : er Try.prog 23 = some (true, 6) := by kernel_rfl
theorem cB : er Try.prog 24 = some (false, 1) := by kernel_rfl
theorem ir : er Try.prog 25 = some (false, 1) := by kernel_rfl
theorem jY : er Try.prog 28 = some (false, 1) := by kernel_rfl
theorem bb : er Try.prog 3 = some (false, 1) := by kernel_rfl
theorem kC : er Try.prog 34 = some (true, 2) := by kernel_rfl
theorem dx : er Try.prog 36 = some (true, 8) := by kernel_rfl
theorem jK : er Try.prog 4 = some (false, 1) := by kernel_rfl
theorem ra : er Try.prog 42 = some (true, 4) := by kernel_rfl
theorem px : er Try.prog 56 = some (true, 6) := by kernel_rfl
theorem mR : er Try.prog 57 = some (false, 1) := by kernel_rfl
theorem lX : er Try.prog 58 = some (false, 1) := by kernel_rfl
theorem iD : er Try.prog 64 = some (true, 3) := by kernel_rfl
theorem k4 : er Try.prog 65 = some (false, 1) := by kernel_rfl
theorem nQ : er Try.prog 77 = some (true, 3) := by kernel_rfl
theorem rb : er Try.prog 9 = some (false, 1) := by kernel_rfl
theorem pw : er Try.prog 97 = some (true, 2) := by kernel_rfl
theorem oN : er Try.prog 99 = some (true, 5) := by kernel_rfl
theorem bo10 : bl Try.prog 10 = true := by kernel_rfl
theorem nE : bl Try.prog 12 = true := by kernel_rfl
theorem nF : bl Try.prog 13 = true := by kernel_rfl
theorem qJ : bl Try.prog 14 = true := by kernel_rfl
theorem p3 : bl Try.prog 15 = true := by kernel_rfl
theorem ky : bl Try.prog 16 = true := by kernel_rfl
theorem bo17 : bl Try.prog 17 = true := by kernel_rfl
theorem bo18 : bl Try.prog 18 = true := by kernel_rfl
theorem bo19 : bl Try.prog 19 = true := by kernel_rfl
theorem bo20 : bl Try.prog 20 = true := by kernel_rfl
theorem bo21 : bl Try.prog 21 = true := by kernel_rfl
theorem qj : bl Try.prog 22 = true := by kernel_rfl
theorem qP : bl Try.prog 23 = true := by kernel_rfl
theorem bo24 : bl Try.prog 24 = true := by kernel_rfl
theorem bo25 : bl Try.prog 25 = true := by kernel_rfl
theorem qh : bl Try.prog 26 = true := by kernel_rfl
theorem bo27 : bl Try.prog 27 = true := by kernel_rfl
theorem bo28 : bl Try.prog 28 = true := by kernel_rfl
theorem bo29 : bl Try.prog 29 = true := by kernel_rfl
theorem bo30 : bl Try.prog 30 = true := by kernel_rfl
theorem mz : bl Try.prog 31 = true := by kernel_rfl
theorem bo32 : bl Try.prog 32 = true := by kernel_rfl
theorem bo33 : bl Try.prog 33 = true := by kernel_rfl
theorem bo34 : bl Try.prog 34 = true := by kernel_rfl
theorem qN : bl Try.prog 35 = true := by kernel_rfl
theorem gM : bl Try.prog 36 = true := by kernel_rfl
theorem bo37 : bl Try.prog 37 = true := by kernel_rfl
theorem bo38 : bl Try.prog 38 = true := by kernel_rfl
theorem oS : bl Try.prog 39 = true := by kernel_rfl
theorem qc : bl Try.prog 40 = true := by kernel_rfl
theorem oK : bl Try.prog 41 = true := by kernel_rfl
theorem pY : bl Try.prog 42 = true := by kernel_rfl
theorem bo43 : bl Try.prog 43 = true := by kernel_rfl
theorem pu : bl Try.prog 44 = true := by kernel_rfl
theorem pB : bl Try.prog 45 = true := by kernel_rfl
theorem qV : bl Try.prog 46 = true := by kernel_rfl
theorem bo47 : bl Try.prog 47 = true := by kernel_rfl
theorem bo48 : bl Try.prog 48 = true := by kernel_rfl
theorem bo49 : bl Try.prog 49 = true := by kernel_rfl
theorem bo50 : bl Try.prog 50 = true := by kernel_rfl
theorem q9 : bl Try.prog 51 = true := by kernel_rfl
theorem bo52 : bl Try.prog 52 = true := by kernel_rfl
theorem bo53 : bl Try.prog 53 = true := by kernel_rfl
theorem bo54 : bl Try.prog 54 = true := by kernel_rfl
theorem bo55 : bl Try.prog 55 = true := by kernel_rfl
theorem qX : bl Try.prog 56 = true := by kernel_rfl
theorem bo57 : bl Try.prog 57 = true := by kernel_rfl
theorem qB : bl Try.prog 58 = true := by kernel_rfl
theorem bo59 : bl Try.prog 59 = true := by kernel_rfl
theorem bo6 : bl Try.prog 6 = true := by kernel_rfl
theorem qD : bl Try.prog 60 = true := by kernel_rfl
theorem bo61 : bl Try.prog 61 = true := by kernel_rfl
theorem bo62 : bl Try.prog 62 = true := by kernel_rfl
theorem q6 : bl Try.prog 63 = true := by kernel_rfl
theorem qK : bl Try.prog 64 = true := by kernel_rfl
theorem bo7 : bl Try.prog 7 = true := by kernel_rfl
theorem qY : bl Try.prog 8 = true := by kernel_rfl
theorem cA : gE Try.prog 24 = some (36, 8, 64) := by kernel_rfl
theorem fV : gE Try.prog 25 = some (4, 1, 1) := by kernel_rfl
theorem ko : gE Try.prog 28 = some (34, 2, 32) := by kernel_rfl
theorem iu : gE Try.prog 38 = some (42, 4, 64) := by kernel_rfl
theorem nJ : gE Try.prog 57 = some (64, 3, 56) := by kernel_rfl
theorem j5 : gE Try.prog 65 = some (3, 1, 8) := by kernel_rfl
theorem rc : gE Try.prog 93 = some (99, 5, 40) := by kernel_rfl
theorem ma : bJ Try.prog 23 0 = some (0, 1) := by kernel_rfl
theorem gZ : bJ Try.prog 23 1 = some (1, 1) := by kernel_rfl
theorem jn : bJ Try.prog 23 2 = some (2, 1) := by kernel_rfl
theorem kI : bJ Try.prog 23 3 = some (3, 1) := by kernel_rfl
theorem pd : bJ Try.prog 23 4 = some (4, 1) := by kernel_rfl
theorem oZ : bJ Try.prog 23 5 = some (5, 1) := by kernel_rfl
theorem nh : bJ Try.prog 34 0 = some (0, 1) := by kernel_rfl
theorem jf : bJ Try.prog 34 1 = some (1, 1) := by kernel_rfl
theorem iC : bJ Try.prog 36 0 = some (0, 1) := by kernel_rfl
theorem hX : bJ Try.prog 36 1 = some (1, 1) := by kernel_rfl
theorem hY : bJ Try.prog 36 2 = some (2, 1) := by kernel_rfl
theorem bn : bJ Try.prog 36 3 = some (3, 1) := by kernel_rfl
theorem cm : bJ Try.prog 36 4 = some (4, 1) := by kernel_rfl
theorem kY : bJ Try.prog 36 5 = some (5, 1) := by kernel_rfl
theorem lZ : bJ Try.prog 36 6 = some (6, 1) := by kernel_rfl
theorem nd : bJ Try.prog 36 7 = some (7, 1) := by kernel_rfl
theorem jT : bJ Try.prog 42 0 = some (0, 1) := by kernel_rfl
theorem lU : bJ Try.prog 42 1 = some (1, 1) := by kernel_rfl
theorem kf : bJ Try.prog 42 2 = some (2, 1) := by kernel_rfl
theorem mW : bJ Try.prog 42 3 = some (3, 1) := by kernel_rfl
theorem ee : bJ Try.prog 56 0 = some (0, 6) := by kernel_rfl
theorem dw : bJ Try.prog 64 0 = some (0, 1) := by kernel_rfl
theorem jV : bJ Try.prog 64 1 = some (1, 1) := by kernel_rfl
theorem dO : bJ Try.prog 64 2 = some (2, 1) := by kernel_rfl
theorem iz : bJ Try.prog 67 0 = some (0, 6) := by kernel_rfl
theorem kW : bJ Try.prog 67 1 = some (6, 1) := by kernel_rfl
theorem jM : bJ Try.prog 67 2 = some (7, 1) := by kernel_rfl
theorem gF : bJ Try.prog 67 3 = some (8, 1) := by kernel_rfl
theorem kV : bJ Try.prog 77 0 = some (0, 1) := by kernel_rfl
theorem kU : bJ Try.prog 77 1 = some (1, 1) := by kernel_rfl
theorem lL : bJ Try.prog 77 2 = some (2, 1) := by kernel_rfl
theorem m3 : bJ Try.prog 97 0 = some (0, 1) := by kernel_rfl
theorem m6 : bJ Try.prog 97 1 = some (1, 1) := by kernel_rfl
theorem mT : bJ Try.prog 99 0 = some (0, 1) := by kernel_rfl
theorem oT : bJ Try.prog 99 1 = some (1, 2) := by kernel_rfl
theorem oj : bJ Try.prog 99 2 = some (3, 2) := by kernel_rfl
theorem ik21 : lw Try.prog 21 = some .i32 := by kernel_rfl
theorem ik5 : lw Try.prog 5 = some .u8 := by kernel_rfl
theorem dJ : Try.prog.follows .mixedOrders = true := by kernel_rfl
theorem pl23 : eQ Try.prog 23 = some [(0, 1), (1, 1), (2, 1), (3, 1), (4, 1), (5, 1)] := by kernel_rfl
theorem mK : eQ Try.prog 34 = some [(0, 1), (1, 1)] := by kernel_rfl
theorem oz : eQ Try.prog 36 = some [(0, 1), (1, 1), (2, 1), (3, 1), (4, 1), (5, 1), (6, 1), (7, 1)] := by kernel_rfl
theorem pl42 : eQ Try.prog 42 = some [(0, 1), (1, 1), (2, 1), (3, 1)] := by kernel_rfl
theorem p5 : eQ Try.prog 56 = some [(0, 6)] := by kernel_rfl
theorem pl64 : eQ Try.prog 64 = some [(0, 1), (1, 1), (2, 1)] := by kernel_rfl
theorem rd : eQ Try.prog 67 = some [(0, 6), (6, 1), (7, 1), (8, 1)] := by kernel_rfl
theorem qs : eQ Try.prog 77 = some [(0, 1), (1, 1), (2, 1)] := by kernel_rfl
theorem qE : eQ Try.prog 97 = some [(0, 1), (1, 1)] := by kernel_rfl
theorem pl99 : eQ Try.prog 99 = some [(0, 1), (1, 2), (3, 2)] := by kernel_rfl
theorem dA : dj Try.prog 24 = some 1 := by kernel_rfl
theorem qL : dj Try.prog 25 = some 1 := by kernel_rfl
theorem kH : dj Try.prog 28 = some 1 := by kernel_rfl
theorem o9 : dj Try.prog 38 = some 1 := by kernel_rfl
theorem pv : dj Try.prog 57 = some 1 := by kernel_rfl
theorem nI : dj Try.prog 58 = some 3 := by kernel_rfl
theorem l6 : dj Try.prog 65 = some 1 := by kernel_rfl
theorem qp : dj Try.prog 9 = some 0 := by kernel_rfl
theorem qg : dj Try.prog 93 = some 1 := by kernel_rfl
theorem ze1 : eo Try.prog 1 = some [Value.nilFunc] := by kernel_rfl
theorem qG : eo Try.prog 23 = some [Value.int .i64 0, Value.int .i64 0, Value.int .i64 0, Value.int .i64 0, Value.int .i64 0, Value.int .i64 0] := by kernel_rfl
theorem ze28 : eo Try.prog 28 = some [Value.slice none 0 0] := by kernel_rfl
theorem pK : eo Try.prog 3 = some [Value.int .i64 0] := by kernel_rfl
theorem ib : eo Try.prog 34 = some [Value.int .i64 0, Value.slice none 0 0] := by kernel_rfl
theorem cP : eo Try.prog 36 = some [Value.int .i64 0, Value.int .i64 0, Value.int .i64 0, Value.int .i64 0, Value.int .i64 0, Value.string (⟨#[]⟩ : ByteArray), Value.bool false, Value.bool false] := by kernel_rfl
theorem qI : eo Try.prog 4 = some [Value.bool false] := by kernel_rfl
theorem pr : eo Try.prog 42 = some [Value.slice none 0 0, Value.slice none 0 0, Value.int .i64 0, Value.bool false] := by kernel_rfl
theorem qn : eo Try.prog 56 = some [Value.int .i64 0, Value.int .i64 0, Value.int .i64 0, Value.int .i64 0, Value.int .i64 0, Value.int .i64 0] := by kernel_rfl
theorem ze57 : eo Try.prog 57 = some [Value.slice none 0 0] := by kernel_rfl
theorem ze58 : eo Try.prog 58 = some [Value.pointer none] := by kernel_rfl
theorem nm : eo Try.prog 64 = some [Value.slice none 0 0, Value.slice none 0 0, Value.int .i64 0] := by kernel_rfl
theorem q7 : eo Try.prog 67 = some [Value.int .i64 0, Value.int .i64 0, Value.int .i64 0, Value.int .i64 0, Value.int .i64 0, Value.int .i64 0, Value.slice none 0 0, Value.slice none 0 0, Value.slice none 0 0] := by kernel_rfl
theorem pG : eo Try.prog 77 = some [Value.int .i64 0, Value.int .i64 0, Value.int .i64 0] := by kernel_rfl
theorem q8 : eo Try.prog 97 = some [Value.int .i64 0, Value.int .i64 0] := by kernel_rfl
theorem qu : eo Try.prog 99 = some [Value.int .i64 0, Value.int .i64 0, Value.int .i64 0, Value.int .i64 0, Value.int .i64 0] := by kernel_rfl
def i6 : Kd eO := Kd.iso (Kd.pair (Kd.int .i64) (Kd.int .i64)) (fun x => (x.Lo, x.Hi))
theorem jj {G : Gh} {x : eO} {cs : List Value} (h : i6.K G x cs) : cs = [Value.int .i64 x.Lo, Value.int .i64 x.Hi] := by
 obtain ⟨_, _, rfl, rfl, rfl⟩ := h
 exact rfl
def e8 : Kd bG := Kd.iso (Kd.pair (Kd.int .i64) (Kd.pair i6 i6)) (fun x => (x.Lang, x.Scale, x.Width))
theorem jG {G : Gh} {x : bG} {cs : List Value} (h : e8.K G x cs) : cs = [Value.int .i64 x.Lang, Value.int .i64 x.Scale.Lo, Value.int .i64 x.Scale.Hi, Value.int .i64 x.Width.Lo, Value.int .i64 x.Width.Hi] := by
 obtain ⟨_, _, rfl, rfl, ⟨_, _, rfl, hs1, hs2⟩⟩ := h
 obtain ⟨rfl⟩ := jj hs2
 obtain ⟨rfl⟩ := jj hs1
 exact rfl
def kw : Kd ax := Kd.iso (Kd.pair (Kd.int .i64) (Kd.pair (Kd.int .i64) (Kd.pair (Kd.int .i64) (Kd.pair (Kd.int .i64) (Kd.pair (Kd.int .i64) (Kd.int .i64)))))) (fun x => (x.Width, x.Height, x.Columns, x.Gap, x.Scale, x.Lang))
theorem kP {G : Gh} {x : ax} {cs : List Value} (h : kw.K G x cs) : cs = [Value.int .i64 x.Width, Value.int .i64 x.Height, Value.int .i64 x.Columns, Value.int .i64 x.Gap, Value.int .i64 x.Scale, Value.int .i64 x.Lang] := by
 obtain ⟨_, _, rfl, rfl, ⟨_, _, rfl, rfl, ⟨_, _, rfl, rfl, ⟨_, _, rfl, rfl, ⟨_, _, rfl, rfl, rfl⟩⟩⟩⟩⟩ := h
 exact rfl
def ah : Kd ac := Kd.iso (Kd.pair (Kd.int .i64) (Kd.pair (Kd.int .i64) (Kd.pair (Kd.int .i64) (Kd.pair (Kd.int .i64) (Kd.pair (Kd.int .i64) (Kd.pair Kd.str (Kd.pair Kd.bool Kd.bool))))))) (fun x => (x.Node, x.Table, x.X, x.Y, x.H, x.Text, x.Head, x.Note))
theorem aF {G : Gh} {x : ac} {cs : List Value} (h : ah.K G x cs) : cs = [Value.int .i64 x.Node, Value.int .i64 x.Table, Value.int .i64 x.X, Value.int .i64 x.Y, Value.int .i64 x.H, Value.string x.Text, Value.bool x.Head, Value.bool x.Note] := by
 obtain ⟨_, _, rfl, rfl, ⟨_, _, rfl, rfl, ⟨_, _, rfl, rfl, ⟨_, _, rfl, rfl, ⟨_, _, rfl, rfl, ⟨_, _, rfl, rfl, ⟨_, _, rfl, rfl, rfl⟩⟩⟩⟩⟩⟩⟩ := h
 exact rfl
theorem aH {G : Gh} {x : ac} : ah.K G x [Value.int .i64 x.Node, Value.int .i64 x.Table, Value.int .i64 x.X, Value.int .i64 x.Y, Value.int .i64 x.H, Value.string x.Text, Value.bool x.Head, Value.bool x.Note] := ⟨[Value.int .i64 x.Node], [Value.int .i64 x.Table, Value.int .i64 x.X, Value.int .i64 x.Y, Value.int .i64 x.H, Value.string x.Text, Value.bool x.Head, Value.bool x.Note], rfl, rfl, ⟨[Value.int .i64 x.Table], [Value.int .i64 x.X, Value.int .i64 x.Y, Value.int .i64 x.H, Value.string x.Text, Value.bool x.Head, Value.bool x.Note], rfl, rfl, ⟨[Value.int .i64 x.X], [Value.int .i64 x.Y, Value.int .i64 x.H, Value.string x.Text, Value.bool x.Head, Value.bool x.Note], rfl, rfl, ⟨[Value.int .i64 x.Y], [Value.int .i64 x.H, Value.string x.Text, Value.bool x.Head, Value.bool x.Note], rfl, rfl, ⟨[Value.int .i64 x.H], [Value.string x.Text, Value.bool x.Head, Value.bool x.Note], rfl, rfl, ⟨[Value.string x.Text], [Value.bool x.Head, Value.bool x.Note], rfl, rfl, ⟨[Value.bool x.Head], [Value.bool x.Note], rfl, rfl, rfl⟩⟩⟩⟩⟩⟩⟩
theorem la : Try.prog.eqGuardType Try.prog.depth 36 = false := by kernel_rfl
theorem lm (x y : ac) : k3 Try.prog 10000 36 [Value.int .i64 x.Node, Value.int .i64 x.Table, Value.int .i64 x.X, Value.int .i64 x.Y, Value.int .i64 x.H, Value.string x.Text, Value.bool x.Head, Value.bool x.Note] [Value.int .i64 y.Node, Value.int .i64 y.Table, Value.int .i64 y.X, Value.int .i64 y.Y, Value.int .i64 y.H, Value.string y.Text, Value.bool y.Head, Value.bool y.Note] = some (decide (x.Node = y.Node) && (decide (x.Table = y.Table) && (decide (x.X = y.X) && (decide (x.Y = y.Y) && (decide (x.H = y.H) && (decide (x.Text = y.Text) && (decide (x.Head = y.Head) && (decide (x.Note = y.Note) && true)))))))) := by kernel_rfl
theorem k8 (x y : ac) : (decide (x.Node = y.Node) && (decide (x.Table = y.Table) && (decide (x.X = y.X) && (decide (x.Y = y.Y) && (decide (x.H = y.H) && (decide (x.Text = y.Text) && (decide (x.Head = y.Head) && (decide (x.Note = y.Note) && true)))))))) = decide (x = y) := by
 rcases x with ⟨_, _, _, _, _, _, _, _⟩
 rcases y with ⟨_, _, _, _, _, _, _, _⟩
 simp
def dL : Kd ak := Kd.iso (Kd.pair (Kd.slice ah) (Kd.pair (Kd.slice ah) (Kd.int .i64))) (fun x => (x.slices, x.notes, x.end_))
theorem gp {G : Gh} {x : ak} {cs : List Value} (h : dL.K G x cs) : ∃ (A1 : Option Addr) (c2 : Nat), x.slices.length ≤ c2 ∧ Dat ah G A1 x.slices ∧ ∃ (A5 : Option Addr) (c6 : Nat), x.notes.length ≤ c6 ∧ Dat ah G A5 x.notes ∧ cs = [Value.slice A1 x.slices.length c2, Value.slice A5 x.notes.length c6, Value.int .i64 x.end_] := by
 obtain ⟨_, _, rfl, ⟨A1, c2, rfl, hl3, hD4⟩, ⟨_, _, rfl, ⟨A5, c6, rfl, hl7, hD8⟩, rfl⟩⟩ := h
 exact ⟨A1, c2, hl3, hD4, ⟨A5, c6, hl7, hD8, rfl⟩⟩
theorem f6 {G : Gh} {x : ak} {A1 : Option Addr} {c2 : Nat} {A5 : Option Addr} {c6 : Nat} (hl3 : x.slices.length ≤ c2) (hD4 : Dat ah G A1 x.slices) (hl7 : x.notes.length ≤ c6) (hD8 : Dat ah G A5 x.notes) : dL.K G x [Value.slice A1 x.slices.length c2, Value.slice A5 x.notes.length c6, Value.int .i64 x.end_] := ⟨[Value.slice A1 x.slices.length c2], [Value.slice A5 x.notes.length c6, Value.int .i64 x.end_], rfl, ⟨_, _, rfl, hl3, hD4⟩, ⟨[Value.slice A5 x.notes.length c6], [Value.int .i64 x.end_], rfl, ⟨_, _, rfl, hl7, hD8⟩, rfl⟩⟩
def br : Kd ap := Kd.iso (Kd.pair (Kd.int .i64) (Kd.slice ah)) (fun x => (x.Number, x.Slices))
theorem ew {G : Gh} {x : ap} {cs : List Value} (h : br.K G x cs) : ∃ (A1 : Option Addr) (c2 : Nat), x.Slices.length ≤ c2 ∧ Dat ah G A1 x.Slices ∧ cs = [Value.int .i64 x.Number, Value.slice A1 x.Slices.length c2] := by
 obtain ⟨_, _, rfl, rfl, ⟨A1, c2, rfl, hl3, hD4⟩⟩ := h
 exact ⟨A1, c2, hl3, hD4, rfl⟩
theorem d7 {G : Gh} {x : ap} {A1 : Option Addr} {c2 : Nat} (hl3 : x.Slices.length ≤ c2) (hD4 : Dat ah G A1 x.Slices) : br.K G x [Value.int .i64 x.Number, Value.slice A1 x.Slices.length c2] := ⟨[Value.int .i64 x.Number], [Value.slice A1 x.Slices.length c2], rfl, rfl, ⟨_, _, rfl, hl3, hD4⟩⟩
def aR : Kd ao := Kd.iso (Kd.pair (Kd.slice ah) (Kd.pair (Kd.slice ah) (Kd.pair (Kd.int .i64) Kd.bool))) (fun x => (x.Slices, x.Notes, x.End, x.Kept))
theorem jg {G : Gh} {x : ao} {cs : List Value} (h : aR.K G x cs) : ∃ (A1 : Option Addr) (c2 : Nat), x.Slices.length ≤ c2 ∧ Dat ah G A1 x.Slices ∧ ∃ (A5 : Option Addr) (c6 : Nat), x.Notes.length ≤ c6 ∧ Dat ah G A5 x.Notes ∧ cs = [Value.slice A1 x.Slices.length c2, Value.slice A5 x.Notes.length c6, Value.int .i64 x.End, Value.bool x.Kept] := by
 obtain ⟨_, _, rfl, ⟨A1, c2, rfl, hl3, hD4⟩, ⟨_, _, rfl, ⟨A5, c6, rfl, hl7, hD8⟩, ⟨_, _, rfl, rfl, rfl⟩⟩⟩ := h
 exact ⟨A1, c2, hl3, hD4, ⟨A5, c6, hl7, hD8, rfl⟩⟩
theorem jR {G : Gh} {x : ao} {A1 : Option Addr} {c2 : Nat} {A5 : Option Addr} {c6 : Nat} (hl3 : x.Slices.length ≤ c2) (hD4 : Dat ah G A1 x.Slices) (hl7 : x.Notes.length ≤ c6) (hD8 : Dat ah G A5 x.Notes) : aR.K G x [Value.slice A1 x.Slices.length c2, Value.slice A5 x.Notes.length c6, Value.int .i64 x.End, Value.bool x.Kept] := ⟨[Value.slice A1 x.Slices.length c2], [Value.slice A5 x.Notes.length c6, Value.int .i64 x.End, Value.bool x.Kept], rfl, ⟨_, _, rfl, hl3, hD4⟩, ⟨[Value.slice A5 x.Notes.length c6], [Value.int .i64 x.End, Value.bool x.Kept], rfl, ⟨_, _, rfl, hl7, hD8⟩, ⟨[Value.int .i64 x.End], [Value.bool x.Kept], rfl, rfl, rfl⟩⟩⟩
abbrev bF : Type := Option Addr × Nat × Option Addr × Nat
def ae : bF := (none, 0, none, 0)
def aq : Kd (ao × bF) := ⟨4, fun G x cs => cs = [Value.slice x.2.1 x.1.Slices.length x.2.2.1, Value.slice x.2.2.2.1 x.1.Notes.length x.2.2.2.2, Value.int .i64 x.1.End, Value.bool x.1.Kept] ∧ x.1.Slices.length ≤ x.2.2.1 ∧ Dat ah G x.2.1 x.1.Slices ∧ Own x.2.1 x.2.2.1 ∧ x.1.Notes.length ≤ x.2.2.2.2 ∧ Dat ah G x.2.2.2.1 x.1.Notes ∧ Own x.2.2.2.1 x.2.2.2.2,
 fun hG h => by obtain ⟨rfl, h0, h1, h2, h3, h4, h5⟩ := h; exact ⟨rfl, h0, Dat.mono hG h1, h2, h3, Dat.mono hG h4, h5⟩, fun h => by rw [h.1]; rfl, fun h => by rw [h.1]; rfl⟩
def ay (x : ao × bF) : List dv := [tk (Value.slice x.2.1 x.1.Slices.length x.2.2.1) 8 36, tk (Value.slice x.2.2.2.1 x.1.Notes.length x.2.2.2.2) 8 36]
theorem jm {G : Gh} {x : ao × bF} {cs : List Value} (h : aq.K G x cs) : aR.K G x.1 cs := by obtain ⟨rfl, h0, h1, h2, h3, h4, h5⟩ := h; exact jR h0 h1 h3 h4
end Go.Proofs.Ytlcfemplcaejgaa.LG
