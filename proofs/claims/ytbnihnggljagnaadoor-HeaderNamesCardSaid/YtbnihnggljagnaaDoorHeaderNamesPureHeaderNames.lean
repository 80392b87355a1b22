/- The plain law of HeaderNames: a closed one, by the kernel. Conditions: none. -/
import Derived.Test.YtbnihnggljagnaaDoorQHeaderNamesx
namespace Go.Proofs.YtbnihnggljagnaaDoor.QHeaderNames
open Go.RowKit Go.Proofs.YtbnihnggljagnaaDoorW.PrintWords
theorem headerNames_pure : ∃ k, waymarklaw03_HeaderNames.f k = some true := ⟨60, by decide +kernel⟩
end Go.Proofs.YtbnihnggljagnaaDoor.QHeaderNames
