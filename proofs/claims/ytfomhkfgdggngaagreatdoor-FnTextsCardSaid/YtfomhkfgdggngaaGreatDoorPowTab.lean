/- THE TABLE OF strconv.Itoa: that it is laid, and that it stays so. -/
import Derived.Test.YtfomhkfgdggngaaGreatDoorShelf
import Derived.Lib.SmallJoins
import Derived.Lib.AppendIntMem
import Derived.Lib.AtoiErrMem
import Derived.Lib.SplitLaws
import Derived.Lib.AtoiAllCases
namespace Go.Proofs.YtfomhkfgdggngaaGreatDoor.S
open Go.RowKit
theorem tab_below {w w' : World} (h : Go.Lib.TabIs Tryz.prog w "internal/strconv.uint64pow10" .u64 Go.Lib.pow10Tab) (hb : Below w.heap.size w w') : Go.Lib.TabIs Tryz.prog w' "internal/strconv.uint64pow10" .u64 Go.Lib.pow10Tab :=
  let ⟨_, hg⟩ := Option.isSome_iff_exists.1 (show (Tryz.prog.globalNamed "internal/strconv.uint64pow10").isSome = true from by kernel_rfl)
  Go.Joins.tab_stays hg h hb (Nat.le_refl _)
structure PowTab (w : World) : Prop where
  tab : Go.Lib.TabIs Tryz.prog w "internal/strconv.uint64pow10" .u64 Go.Lib.pow10Tab
  max : ∃ m : Int, w.cell? ⟨0, 0, none⟩ = some (.int .i64 m)
  errS : ∃ te pe, w.cell? ⟨1, 0, none⟩ = some (.iface te pe)
  errR : ∃ te pe, w.cell? ⟨2, 0, none⟩ = some (.iface te pe)
theorem PowTab.below {w w' : World} (h : PowTab w) (hb : Below w.heap.size w w') : PowTab w' :=
  let ⟨m, hm⟩ := h.max
  let ⟨a, b, hs⟩ := h.errS
  let ⟨c, d, hr⟩ := h.errR
  ⟨tab_below h.tab hb, ⟨m, (hb.cell (World.block_lt_of_cell? w _ hm)).trans hm⟩, ⟨a, b, (hb.cell (World.block_lt_of_cell? w _ hs)).trans hs⟩, ⟨c, d, (hb.cell (World.block_lt_of_cell? w _ hr)).trans hr⟩⟩
end Go.Proofs.YtfomhkfgdggngaaGreatDoor.S
