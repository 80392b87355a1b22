/- The plain law of AddrNames: a closed one, by the kernel. Conditions: none. -/
import Derived.Test.YtbnihnggljagnaaDoorQAddrNamesx
namespace Go.Proofs.YtbnihnggljagnaaDoor.QAddrNames
open Go.RowKit Go.Proofs.YtbnihnggljagnaaDoorW.PrintWords
theorem addrNames_pure : ∃ k, waymarklaw01_AddrNames.f k = some true := ⟨200, by decide +kernel⟩
end Go.Proofs.YtbnihnggljagnaaDoor.QAddrNames
