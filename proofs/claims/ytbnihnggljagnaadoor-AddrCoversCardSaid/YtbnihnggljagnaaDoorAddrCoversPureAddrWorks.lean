/- 'works' of layer 1, by the kernel. Conditions: none. -/
import Derived.Test.YtbnihnggljagnaaDoorQAddrCoversx
namespace Go.Proofs.YtbnihnggljagnaaDoor.QAddrCovers
open Go.RowKit Go.Proofs.YtbnihnggljagnaaDoorW.PrintWords
theorem works_true : waymarklaw01_works.f 200 = some true := by decide +kernel
end Go.Proofs.YtbnihnggljagnaaDoor.QAddrCovers
