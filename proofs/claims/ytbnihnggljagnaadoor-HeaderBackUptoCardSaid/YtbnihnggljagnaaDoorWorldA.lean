/- What the walks ask of the world where texts are cut and numbers are read and written. Conditions: none. -/
import Derived.Test.YtbnihnggljagnaaDoorWorld
import Derived.Test.YtbnihnggljagnaaDoorWorldN
namespace Go.Proofs.YtbnihnggljagnaaDoor.WorldA
open Go.RowKit
def GW (w : World) : Prop := World.GW w ∧ WorldN.GN w
theorem GW.below {w w' : World} (h : GW w) (hb : Below w.heap.size w w') : GW w' := ⟨World.GW.below h.1 hb, WorldN.GN.below h.2 hb⟩
theorem GW.len {w : World} (h : GW w) : World.GW w := h.1
theorem GW.num {w : World} (h : GW w) : WorldN.GN w := h.2
end Go.Proofs.YtbnihnggljagnaaDoor.WorldA
