/-
  The contracts of Go's library, laid at this program.
-/
import Derived.Test.YtpefcdchjokggaaDoorProg
import Derived.KernelRfl
import Derived.Ground.NamesProg
import Derived.WalkKit
import Derived.Shelf.Lay
import Derived.Shelf.LaysM
import Derived.Shelf.Strings.Count
import Derived.Shelf.Strings.MapGrows
import Derived.Shelf.Strings.Prefix
import Derived.Shelf.Strings.Search3
import Derived.Shelf.Strings.Trim
import Derived.Test.YtpefcdchjokggaaDoorLgJ
namespace Go.Proofs
open Go.RowKit Go.Shelf Go.Lib
shelf_lay Lays.n100 Nm 100 at Tryd as Tryd.l100
shelf_lay Lays.n138 Nm 138 at Tryd as Tryd.l138
shelf_lay Lays.n144 Nm 144 at Tryd as Tryd.l144
shelf_lay Lays.n160 Nm 160 at Tryd as Tryd.l160
shelf_lay Lays.n230 Nm 230 at Tryd as Tryd.l230
shelf_lay Lays.n99 Nm 99 at Tryd as Tryd.l99
shelf_lay LaysM.n143 Nm 143 at Tryd as Tryd.lM143
theorem Tryd_extra : Builder.Extra Tryd.prog Tryd.l230_ren where
  sizeBuilder := by kernel_rfl
  liesBuilder := by kernel_rfl
  t5 := Tryd.l230.t5
  a5 := Tryd.l230.a5
  z5 := Tryd.l230.z5
  v5 := Tryd.l230.v5
  infoByte := by kernel_rfl
  cellsByte := by kernel_rfl
  sizeByte := by kernel_rfl
  neB5 := by decide
end Go.Proofs
namespace Go.Proofs.YtpefcdchjokggaaDoor.LG
open Go Go.LG Go.RowKit Go.Shelf Go.Lib Go.Proofs
/-- What is asked of the package-level variables. -/
structure Tab (w : World) : Prop where
  maxlen : (∃ m, w.cell? ⟨(Tryd.lM143_ren.g 1), 0, none⟩ = some (.int .i64 m))
  utf8 : Lib.Utf8Tabs (Tryd.l230_ren.g 3) (Tryd.l230_ren.g 4) w
abbrev Gl (G : Gh) : Prop := Go.LG.Gl Tab G
end Go.Proofs.YtpefcdchjokggaaDoor.LG
