/- What this seat's walks ask of the world that a law begins in. Conditions: none. -/
import Derived.Below
namespace Go.Proofs.YtbnihnggljagnaaDoor.World
open Go.RowKit
/-- The library's own variable MaxLen holds some number. -/
def GW (w : World) : Prop := ∃ m, w.cell? ⟨0, 0, none⟩ = some (.int .i64 m)
theorem GW.below {w w' : World} (h : GW w) (hb : Below w.heap.size w w') : GW w' := by
  obtain ⟨m, hm⟩ := h
  exact ⟨m, (hb.cell (World.block_lt_of_cell? w _ hm)).trans hm⟩
end Go.Proofs.YtbnihnggljagnaaDoor.World
