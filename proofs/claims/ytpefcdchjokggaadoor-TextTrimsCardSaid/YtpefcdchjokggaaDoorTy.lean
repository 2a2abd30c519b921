/-
  Closed facts of the program's types, and how each struct lies in memory: printed by a program out of the translation.
-/
import Derived.Test.YtpefcdchjokggaaDoorProg
import Derived.KernelRfl
import Derived.Test.YtpefcdchjokggaaDoorLgJ
import Derived.Test.YtpefcdchjokggaaDoorPd
set_option linter.unusedVariables false
set_option linter.unusedSimpArgs false
set_option maxRecDepth 100000
namespace Go.Proofs.YtpefcdchjokggaaDoor.LG
open Go Go.LG Go.RowKit
theorem bo10 : bodyB Tryd.prog 10 = true := by kernel_rfl
theorem bo11 : bodyB Tryd.prog 11 = true := by kernel_rfl
theorem bo12 : bodyB Tryd.prog 12 = true := by kernel_rfl
theorem bo13 : bodyB Tryd.prog 13 = true := by kernel_rfl
theorem bo14 : bodyB Tryd.prog 14 = true := by kernel_rfl
theorem bo15 : bodyB Tryd.prog 15 = true := by kernel_rfl
theorem bo16 : bodyB Tryd.prog 16 = true := by kernel_rfl
theorem bo17 : bodyB Tryd.prog 17 = true := by kernel_rfl
theorem bo18 : bodyB Tryd.prog 18 = true := by kernel_rfl
theorem bo19 : bodyB Tryd.prog 19 = true := by kernel_rfl
theorem bo20 : bodyB Tryd.prog 20 = true := by kernel_rfl
theorem bo21 : bodyB Tryd.prog 21 = true := by kernel_rfl
theorem bo22 : bodyB Tryd.prog 22 = true := by kernel_rfl
theorem bo23 : bodyB Tryd.prog 23 = true := by kernel_rfl
theorem bo24 : bodyB Tryd.prog 24 = true := by kernel_rfl
theorem bo26 : bodyB Tryd.prog 26 = true := by kernel_rfl
theorem bo27 : bodyB Tryd.prog 27 = true := by kernel_rfl
theorem bo28 : bodyB Tryd.prog 28 = true := by kernel_rfl
theorem bo9 : bodyB Tryd.prog 9 = true := by kernel_rfl
theorem el40 : elemB Tryd.prog 40 = some (5, 1, 1) := by kernel_rfl
theorem ik21 : intKB Tryd.prog 21 = some .i32 := by kernel_rfl
theorem ik5 : intKB Tryd.prog 5 = some .u8 := by kernel_rfl
theorem so4 : sortB Tryd.prog 4 = some 6 := by kernel_rfl
theorem so40 : sortB Tryd.prog 40 = some 1 := by kernel_rfl
theorem so9 : sortB Tryd.prog 9 = some 0 := by kernel_rfl
theorem ze5 : zeroB Tryd.prog 5 = some [Value.int .u8 0] := by kernel_rfl
end Go.Proofs.YtpefcdchjokggaaDoor.LG
