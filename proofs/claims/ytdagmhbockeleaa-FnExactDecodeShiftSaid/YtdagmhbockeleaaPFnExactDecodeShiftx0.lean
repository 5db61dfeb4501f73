-- Written by a program of this session (wip/tools/myprint.py) that runs the kit's print with hooks of its own. Lean checks it.
import Derived.Test.YtdagmhbockeleaaProg
import Derived.Below
import Derived.Deep.Draws
import Derived.Deep.AppendLies
import Derived.Maps.AppendAt
import Derived.OwnWalk
import Derived.Laws.BytesArg
import Derived.Laws.MakeOwn
import Derived.Laws.OwnMore
import Derived.Deep.OwnRows
import Derived.Tactics
import Derived.Lib.ConvBytes
import Derived.Laws.Slices
import Derived.WalkKit
import Derived.KernelRfl
import Derived.RowKit3
import Derived.Deep.LoopGhost
import Derived.Deep.QuietTactic
import Derived.BigQuiet
import Derived.WideLaws
import Derived.Deep.DeepCutAuto
import Derived.Deep.CutBlock
import Derived.Deep.RegionHeld3
import Derived.Laws.Rows
import Derived.Lib.AppendStr
import Derived.ArgAppend
import Derived.Laws.IdiomCopy
import Derived.OrdersHeld
import Derived.Laws.BitsLemmas
import Derived.RowKit
import Derived.Test.YtdagmhbockeleaaWWords
import Derived.Test.YtdagmhbockeleaaWLast
import Derived.Test.YtdagmhbockeleaaWTab
import Derived.Test.YtdagmhbockeleaaWFour
import Derived.Test.YtdagmhbockeleaaWQPut
import Derived.Test.YtdagmhbockeleaaWApart
import Derived.Test.YtdagmhbockeleaaWArr
import Derived.Test.YtdagmhbockeleaaWZeros
import Derived.Test.YtdagmhbockeleaaWFoot
import Derived.Test.YtdagmhbockeleaaWKept
import Derived.Test.YtdagmhbockeleaaWShare
import Derived.Test.YtdagmhbockeleaaWN
import Derived.Test.YtdagmhbockeleaaWFootNe
import Derived.Test.YtdagmhbockeleaaWAt
import Derived.Test.YtdagmhbockeleaaWEqStruct
import Derived.Test.YtdagmhbockeleaaWRepsOne
import Derived.Test.YtdagmhbockeleaaWInv
import Derived.Test.YtdagmhbockeleaaWInvWords
import Derived.Test.YtdagmhbockeleaaWGuard
import Derived.Test.YtdagmhbockeleaaWNEv
import Derived.Test.YtdagmhbockeleaaWMore
namespace Go.Proofs.Ytdagmhbockeleaa.PFnExactDecodeShift
open Go.RowKit Go.Proofs.YtdagmhbockeleaaW.PrintWords Go.Proofs.YtdagmhbockeleaaW.PrintLast Go.Proofs.YtdagmhbockeleaaW.PrintMore
attribute [local go_sem] max2_int min2_int max_two min_two max_three min_three max_four min_four   -- for this text's walks alone
set_option linter.unusedVariables false
set_option linter.unusedSimpArgs false



def errW : Option Int → Value
  | none => .nilIface
  | some c => .iface 0 (.int .i64 c)
theorem errW_none : errW none = .nilIface := rfl
theorem errW_some (c : Int) : errW (some c) = .iface 0 (.int .i64 c) := rfl

theorem info2 : (Try.prog.info? 2).map (fun i => (i.zero, i.size, i.bytes)) = some (some (.int .i64 0), 1, 8) := by kernel_rfl
theorem info5 : (Try.prog.info? 5).map (fun i => (i.zero, i.size, i.bytes)) = some (some (.int .u8 0), 1, 1) := by kernel_rfl
-- the values' own types

end Go.Proofs.Ytdagmhbockeleaa.PFnExactDecodeShift
