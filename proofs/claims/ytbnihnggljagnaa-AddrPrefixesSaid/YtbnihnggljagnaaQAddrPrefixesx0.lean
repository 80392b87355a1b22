-- Written by this session's program (wip/tools/printx.py) over the kit's print; the texts marked HAND are its own. Lean checks it.
import Derived.Test.YtbnihnggljagnaaProg
import Derived.Below
import Derived.Deep.Draws
import Derived.Deep.AppendLies
import Derived.Maps.AppendAt
import Derived.OwnWalk
import Derived.Laws.BytesArg
import Derived.Laws.MakeOwn
import Derived.Laws.OwnMore
import Derived.Deep.OwnRows
import Derived.Tactics
import Derived.Lib.ConvBytes
import Derived.Laws.Slices
import Derived.WalkKit
import Derived.KernelRfl
import Derived.RowKit3
import Derived.Deep.LoopGhost
import Derived.Deep.QuietTactic
import Derived.BigQuiet
import Derived.WideLaws
import Derived.Deep.DeepCutAuto
import Derived.Deep.CutBlock
import Derived.Deep.RegionHeld3
import Derived.Laws.Rows
import Derived.Lib.AppendStr
import Derived.ArgAppend
import Derived.Laws.IdiomCopy
import Derived.OrdersHeld
import Derived.Laws.BitsLemmas
import Derived.RowKit
import Derived.Test.YtbnihnggljagnaaBase
import Derived.BigRegion
import Derived.Test.YtbnihnggljagnaaShelf
import Derived.Test.YtbnihnggljagnaaWWords
import Derived.Test.YtbnihnggljagnaaWLast
import Derived.Test.YtbnihnggljagnaaWTab
import Derived.Test.YtbnihnggljagnaaWFour
import Derived.Test.YtbnihnggljagnaaWQPut
import Derived.Test.YtbnihnggljagnaaWApart
import Derived.Test.YtbnihnggljagnaaWArr
import Derived.Test.YtbnihnggljagnaaWZeros
import Derived.Test.YtbnihnggljagnaaWFoot
import Derived.Test.YtbnihnggljagnaaWKept
import Derived.Test.YtbnihnggljagnaaWShare
import Derived.Test.YtbnihnggljagnaaWN
import Derived.Test.YtbnihnggljagnaaWFootNe
import Derived.Test.YtbnihnggljagnaaWAt
import Derived.Test.YtbnihnggljagnaaWEqStruct
import Derived.Test.YtbnihnggljagnaaWRepsOne
import Derived.Test.YtbnihnggljagnaaWInv
import Derived.Test.YtbnihnggljagnaaWInvWords
import Derived.Test.YtbnihnggljagnaaWGuard
import Derived.Test.YtbnihnggljagnaaWNEv
import Derived.Test.YtbnihnggljagnaaWMore
namespace Go.Proofs.Ytbnihnggljagnaa.QAddrPrefixes
open Go.RowKit Go.Proofs.YtbnihnggljagnaaW.PrintWords Go.Proofs.YtbnihnggljagnaaW.PrintLast Go.Proofs.YtbnihnggljagnaaW.PrintMore
attribute [local go_sem] max2_int min2_int max_two min_two max_three min_three max_four min_four   -- for this text's walks alone
attribute [local go_sem high] Go.Proofs.Ytbnihnggljagnaa.Base.ux_u32 Go.Proofs.Ytbnihnggljagnaa.Base.ux_u64 Go.Proofs.Ytbnihnggljagnaa.Base.ux_u8 Go.Proofs.Ytbnihnggljagnaa.Base.ux_u16
set_option linter.unusedVariables false
set_option linter.unusedSimpArgs false



def errW : Option Int → Value
  | none => .nilIface
  | some c => .iface 0 (.int .i64 c)
theorem errW_none : errW none = .nilIface := rfl
theorem errW_some (c : Int) : errW (some c) = .iface 0 (.int .i64 c) := rfl

theorem info3 : (Try.prog.info? 3).map (fun i => (i.zero, i.size, i.bytes)) = some (some (.int .i64 0), 1, 8) := by kernel_rfl
-- the values' own types

end Go.Proofs.Ytbnihnggljagnaa.QAddrPrefixes
