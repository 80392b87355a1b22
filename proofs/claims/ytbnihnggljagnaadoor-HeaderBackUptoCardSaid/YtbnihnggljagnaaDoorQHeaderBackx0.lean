-- Written by this session's program (wip/tools/printx.py) over the kit's print; the texts marked HAND are its own. Lean checks it.
import Derived.Test.YtbnihnggljagnaaDoorProg
import Derived.Below
import Derived.Deep.Draws
import Derived.Deep.AppendLies
import Derived.Maps.AppendAt
import Derived.OwnWalk
import Derived.Laws.BytesArg
import Derived.Laws.MakeOwn
import Derived.Laws.OwnMore
import Derived.Deep.OwnRows
import Derived.Tactics
import Derived.Lib.ConvBytes
import Derived.Laws.Slices
import Derived.WalkKit
import Derived.KernelRfl
import Derived.RowKit3
import Derived.Deep.LoopGhost
import Derived.Deep.QuietTactic
import Derived.BigQuiet
import Derived.WideLaws
import Derived.Deep.DeepCutAuto
import Derived.Deep.CutBlock
import Derived.Deep.RegionHeld3
import Derived.Laws.Rows
import Derived.Lib.AppendStr
import Derived.ArgAppend
import Derived.Laws.IdiomCopy
import Derived.OrdersHeld
import Derived.Laws.BitsLemmas
import Derived.RowKit
import Derived.Test.YtbnihnggljagnaaDoorBase
import Derived.Deep.RegionWith
import Derived.IntWalk
import Derived.Laws.CopyOwn
import Derived.Lib.AppendIntMem
import Derived.Lib.AtoiErrMem
import Derived.Lib.ParseIntBCases
import Derived.Lib.ParseIntBMem
import Derived.Lib.SmallJoins
import Derived.Lib.SplitLaws
import Derived.OneCell
import Derived.Test.YtbnihnggljagnaaDoorBase2
import Derived.Test.YtbnihnggljagnaaDoorHdrMath
import Derived.Test.YtbnihnggljagnaaDoorNumMath
import Derived.Test.YtbnihnggljagnaaDoorShelf
import Derived.Test.YtbnihnggljagnaaDoorShelfJ
import Derived.Test.YtbnihnggljagnaaDoorShelfN
import Derived.Test.YtbnihnggljagnaaDoorShelfP
import Derived.Test.YtbnihnggljagnaaDoorWLast
import Derived.Test.YtbnihnggljagnaaDoorWTab
import Derived.Test.YtbnihnggljagnaaDoorWorldA
import Derived.Test.YtbnihnggljagnaaDoorWorldN
import Derived.Test.YtbnihnggljagnaaDoorWWords
import Derived.Test.YtbnihnggljagnaaDoorWLast
import Derived.Test.YtbnihnggljagnaaDoorWTab
import Derived.Test.YtbnihnggljagnaaDoorWFour
import Derived.Test.YtbnihnggljagnaaDoorWQPut
import Derived.Test.YtbnihnggljagnaaDoorWApart
import Derived.Test.YtbnihnggljagnaaDoorWArr
import Derived.Test.YtbnihnggljagnaaDoorWZeros
import Derived.Test.YtbnihnggljagnaaDoorWFoot
import Derived.Test.YtbnihnggljagnaaDoorWKept
import Derived.Test.YtbnihnggljagnaaDoorWShare
import Derived.Test.YtbnihnggljagnaaDoorWN
import Derived.Test.YtbnihnggljagnaaDoorWFootNe
import Derived.Test.YtbnihnggljagnaaDoorWAt
import Derived.Test.YtbnihnggljagnaaDoorWEqStruct
import Derived.Test.YtbnihnggljagnaaDoorWRepsOne
import Derived.Test.YtbnihnggljagnaaDoorWInv
import Derived.Test.YtbnihnggljagnaaDoorWInvWords
import Derived.Test.YtbnihnggljagnaaDoorWGuard
import Derived.Test.YtbnihnggljagnaaDoorWNEv
import Derived.Test.YtbnihnggljagnaaDoorWMore
namespace Go.Proofs.YtbnihnggljagnaaDoor.QHeaderBack
open Go.RowKit Go.Proofs.YtbnihnggljagnaaDoorW.PrintWords Go.Proofs.YtbnihnggljagnaaDoorW.PrintLast Go.Proofs.YtbnihnggljagnaaDoorW.PrintMore
attribute [local go_sem] max2_int min2_int max_two min_two max_three min_three max_four min_four   -- for this text's walks alone
attribute [local go_sem high] Go.Proofs.YtbnihnggljagnaaDoor.Base.ux_u32 Go.Proofs.YtbnihnggljagnaaDoor.Base.ux_u64 Go.Proofs.YtbnihnggljagnaaDoor.Base.ux_u8 Go.Proofs.YtbnihnggljagnaaDoor.Base.ux_u16
set_option linter.unusedVariables false
set_option linter.unusedSimpArgs false



def errW : Option Int → Value
  | none => .nilIface
  | some c => .iface 0 (.int .i64 c)
theorem errW_none : errW none = .nilIface := rfl
theorem errW_some (c : Int) : errW (some c) = .iface 0 (.int .i64 c) := rfl

-- the values' own types

end Go.Proofs.YtbnihnggljagnaaDoor.QHeaderBack
