-- Written by a program of this session (wip/tools/myprint.py) that runs the kit's print with hooks of its own. Lean checks it.
import Derived.Test.YthjkfmdfkndpcaaProg
import Derived.Below
import Derived.Deep.Draws
import Derived.Deep.AppendLies
import Derived.Maps.AppendAt
import Derived.OwnWalk
import Derived.Laws.BytesArg
import Derived.Laws.MakeOwn
import Derived.Laws.OwnMore
import Derived.Deep.OwnRows
import Derived.Tactics
import Derived.Lib.ConvBytes
import Derived.Laws.Slices
import Derived.WalkKit
import Derived.KernelRfl
import Derived.RowKit3
import Derived.Deep.LoopGhost
import Derived.Deep.QuietTactic
import Derived.BigQuiet
import Derived.WideLaws
import Derived.Deep.DeepCutAuto
import Derived.Deep.CutBlock
import Derived.Deep.RegionHeld3
import Derived.Laws.Rows
import Derived.Lib.AppendStr
import Derived.ArgAppend
import Derived.Laws.IdiomCopy
import Derived.OrdersHeld
import Derived.Laws.BitsLemmas
import Derived.RowKit
import Derived.Test.YthjkfmdfkndpcaaRev
import Derived.Test.YthjkfmdfkndpcaaWWords
import Derived.Test.YthjkfmdfkndpcaaWLast
import Derived.Test.YthjkfmdfkndpcaaWTab
import Derived.Test.YthjkfmdfkndpcaaWFour
import Derived.Test.YthjkfmdfkndpcaaWQPut
import Derived.Test.YthjkfmdfkndpcaaWApart
import Derived.Test.YthjkfmdfkndpcaaWArr
import Derived.Test.YthjkfmdfkndpcaaWZeros
import Derived.Test.YthjkfmdfkndpcaaWFoot
import Derived.Test.YthjkfmdfkndpcaaWKept
import Derived.Test.YthjkfmdfkndpcaaWShare
import Derived.Test.YthjkfmdfkndpcaaWN
import Derived.Test.YthjkfmdfkndpcaaWFootNe
import Derived.Test.YthjkfmdfkndpcaaWAt
import Derived.Test.YthjkfmdfkndpcaaWEqStruct
import Derived.Test.YthjkfmdfkndpcaaWRepsOne
import Derived.Test.YthjkfmdfkndpcaaWInv
import Derived.Test.YthjkfmdfkndpcaaWInvWords
import Derived.Test.YthjkfmdfkndpcaaWGuard
import Derived.Test.YthjkfmdfkndpcaaWNEv
import Derived.Test.YthjkfmdfkndpcaaWMore
namespace Go.Proofs.Ythjkfmdfkndpcaa.PFnExactPlaceOf
open Go.RowKit Go.Proofs.YthjkfmdfkndpcaaW.PrintWords Go.Proofs.YthjkfmdfkndpcaaW.PrintLast Go.Proofs.YthjkfmdfkndpcaaW.PrintMore
attribute [local go_sem] max2_int min2_int max_two min_two max_three min_three max_four min_four   -- for this text's walks alone
set_option linter.unusedVariables false
set_option linter.unusedSimpArgs false



def errW : Option Int → Value
  | none => .nilIface
  | some c => .iface 0 (.int .i64 c)
theorem errW_none : errW none = .nilIface := rfl
theorem errW_some (c : Int) : errW (some c) = .iface 0 (.int .i64 c) := rfl

theorem info2 : (Try.prog.info? 2).map (fun i => (i.zero, i.size, i.bytes)) = some (some (.int .i64 0), 1, 8) := by kernel_rfl
-- the values' own types

end Go.Proofs.Ythjkfmdfkndpcaa.PFnExactPlaceOf
