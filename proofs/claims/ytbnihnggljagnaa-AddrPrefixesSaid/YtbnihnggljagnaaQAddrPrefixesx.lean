-- Written by this session's program (wip/tools/printx.py) over the kit's print; the texts marked HAND are its own. Lean checks it.
import Derived.Test.YtbnihnggljagnaaQAddrPrefixesx0
import Derived.Test.YtbnihnggljagnaaQAddrPrefixesx1
import Derived.Test.YtbnihnggljagnaaQAddrPrefixesx2
import Derived.Test.YtbnihnggljagnaaQAddrPrefixesx3
import Derived.Test.YtbnihnggljagnaaQAddrPrefixesx4
import Derived.Test.YtbnihnggljagnaaQAddrPrefixesx5
import Derived.Test.YtbnihnggljagnaaQAddrPrefixesx6
namespace Go.Proofs.Ytbnihnggljagnaa.QAddrPrefixes
open Go.RowKit Go.Proofs.YtbnihnggljagnaaW.PrintWords Go.Proofs.YtbnihnggljagnaaW.PrintLast Go.Proofs.YtbnihnggljagnaaW.PrintMore
attribute [local go_sem] max2_int min2_int max_two min_two max_three min_three max_four min_four   -- for this text's walks alone
attribute [local go_sem high] Go.Proofs.Ytbnihnggljagnaa.Base.ux_u32 Go.Proofs.Ytbnihnggljagnaa.Base.ux_u64 Go.Proofs.Ytbnihnggljagnaa.Base.ux_u8 Go.Proofs.Ytbnihnggljagnaa.Base.ux_u16
set_option linter.unusedVariables false
set_option linter.unusedSimpArgs false

end Go.Proofs.Ytbnihnggljagnaa.QAddrPrefixes
