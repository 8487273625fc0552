/- THE TABLE OF strconv.Itoa: that it is laid, and that it stays so. -/
import Derived.Test.YtpieaniigkgmoaaGreatDoorShelf
import Derived.Lib.SmallJoins
import Derived.Lib.AppendIntMem
namespace Go.Proofs.YtpieaniigkgmoaaGreatDoor.S
open Go.RowKit
theorem tab_below {w w' : World} (h : Go.Lib.TabIs Tryz.prog w "internal/strconv.uint64pow10" .u64 Go.Lib.pow10Tab) (hb : Below w.heap.size w w') : Go.Lib.TabIs Tryz.prog w' "internal/strconv.uint64pow10" .u64 Go.Lib.pow10Tab :=
  let ⟨_, hg⟩ := Option.isSome_iff_exists.1 (show (Tryz.prog.globalNamed "internal/strconv.uint64pow10").isSome = true from by kernel_rfl)
  Go.Joins.tab_stays hg h hb (Nat.le_refl _)
structure PowTab (w : World) : Prop where
  tab : Go.Lib.TabIs Tryz.prog w "internal/strconv.uint64pow10" .u64 Go.Lib.pow10Tab
theorem PowTab.below {w w' : World} (h : PowTab w) (hb : Below w.heap.size w w') : PowTab w' := ⟨tab_below h.tab hb⟩
end Go.Proofs.YtpieaniigkgmoaaGreatDoor.S
