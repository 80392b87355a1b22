/- 'works' of layer 7, by the kernel. Conditions: none. -/
import Derived.Test.YtbnihnggljagnaaDoorQLexNamesx4
namespace Go.Proofs.YtbnihnggljagnaaDoor.QLexNames
open Go.RowKit Go.Proofs.YtbnihnggljagnaaDoorW.PrintWords
theorem works_true : waymarklaw07_works.f 200 = some true := by decide +kernel
end Go.Proofs.YtbnihnggljagnaaDoor.QLexNames
