/- What this seat's walks ask of the world that a law begins in, where numbers are read and written: the library's sentinels and its table. Conditions: none. -/
import Derived.Below
import Derived.Lib.LaidTab
import Derived.Lib.ItoaMem
import Derived.Lib.SmallJoins
import Derived.Test.YtbnihnggljagnaaDoorProg
namespace Go.Proofs.YtbnihnggljagnaaDoor.WorldN
open Go.RowKit
theorem pow10_named : Tryd.prog.globalNamed "internal/strconv.uint64pow10" = some 1 := by kernel_rfl
/-- The library's ErrSyntax and ErrRange hold values of an interface's type, its table of powers holds them. -/
structure GN (w : World) : Prop where
  syn : ∃ ev, w.cell? ⟨2, 0, none⟩ = some ev ∧ (ev = .nilIface ∨ ∃ te pe, ev = .iface te pe)
  rng : ∃ ev, w.cell? ⟨3, 0, none⟩ = some ev ∧ (ev = .nilIface ∨ ∃ te pe, ev = .iface te pe)
  tab : Lib.TabIs Tryd.prog w "internal/strconv.uint64pow10" .u64 Lib.pow10Tab
theorem GN.below {w w' : World} (h : GN w) (hb : Below w.heap.size w w') : GN w' := by
  obtain ⟨⟨e1, h1, k1⟩, ⟨e2, h2, k2⟩, ht⟩ := h
  exact ⟨⟨e1, (hb.cell (World.block_lt_of_cell? w _ h1)).trans h1, k1⟩, ⟨e2, (hb.cell (World.block_lt_of_cell? w _ h2)).trans h2, k2⟩, Go.Joins.tab_stays pow10_named ht hb (Nat.le_refl _)⟩
def GW (w : World) : Prop := GN w
theorem GW.below {w w' : World} (h : GW w) (hb : Below w.heap.size w w') : GW w' := GN.below h hb
theorem GW.num {w : World} (h : GW w) : GN w := h
end Go.Proofs.YtbnihnggljagnaaDoor.WorldN
