-- Written by a program of this session (wip/tools/myprint.py) that runs the kit's print with hooks of its own. Lean checks it.
import Derived.Test.YtpibhoaegbeonaaDoorProg
import Derived.Below
import Derived.Deep.Draws
import Derived.Deep.AppendLies
import Derived.Maps.AppendAt
import Derived.OwnWalk
import Derived.Laws.BytesArg
import Derived.Laws.MakeOwn
import Derived.Laws.OwnMore
import Derived.Deep.OwnRows
import Derived.Tactics
import Derived.Lib.ConvBytes
import Derived.Laws.Slices
import Derived.WalkKit
import Derived.KernelRfl
import Derived.RowKit3
import Derived.Deep.LoopGhost
import Derived.Deep.QuietTactic
import Derived.BigQuiet
import Derived.WideLaws
import Derived.Deep.DeepCutAuto
import Derived.Deep.CutBlock
import Derived.Deep.RegionHeld3
import Derived.Laws.Rows
import Derived.Lib.AppendStr
import Derived.ArgAppend
import Derived.Laws.IdiomCopy
import Derived.OrdersHeld
import Derived.Laws.BitsLemmas
import Derived.RowKit
import Derived.Test.YtpibhoaegbeonaaDoorGL
import Derived.Test.YtpibhoaegbeonaaDoorWWords
import Derived.Test.YtpibhoaegbeonaaDoorWLast
import Derived.Test.YtpibhoaegbeonaaDoorWTab
import Derived.Test.YtpibhoaegbeonaaDoorWFour
import Derived.Test.YtpibhoaegbeonaaDoorWQPut
import Derived.Test.YtpibhoaegbeonaaDoorWApart
import Derived.Test.YtpibhoaegbeonaaDoorWArr
import Derived.Test.YtpibhoaegbeonaaDoorWZeros
import Derived.Test.YtpibhoaegbeonaaDoorWFoot
import Derived.Test.YtpibhoaegbeonaaDoorWKept
import Derived.Test.YtpibhoaegbeonaaDoorWShare
import Derived.Test.YtpibhoaegbeonaaDoorWN
import Derived.Test.YtpibhoaegbeonaaDoorWFootNe
import Derived.Test.YtpibhoaegbeonaaDoorWAt
import Derived.Test.YtpibhoaegbeonaaDoorWEqStruct
import Derived.Test.YtpibhoaegbeonaaDoorWRepsOne
import Derived.Test.YtpibhoaegbeonaaDoorWInv
import Derived.Test.YtpibhoaegbeonaaDoorWInvWords
import Derived.Test.YtpibhoaegbeonaaDoorWGuard
import Derived.Test.YtpibhoaegbeonaaDoorWNEv
import Derived.Test.YtpibhoaegbeonaaDoorWMore
namespace Go.Proofs.YtpibhoaegbeonaaDoor.PFnExactMirrorOf
open Go.RowKit Go.Proofs.YtpibhoaegbeonaaDoorW.PrintWords Go.Proofs.YtpibhoaegbeonaaDoorW.PrintLast Go.Proofs.YtpibhoaegbeonaaDoorW.PrintMore
attribute [local go_sem] max2_int min2_int max_two min_two max_three min_three max_four min_four   -- for this text's walks alone
set_option linter.unusedVariables false
set_option linter.unusedSimpArgs false



def errW : Option Int → Value
  | none => .nilIface
  | some c => .iface 0 (.int .i64 c)
theorem errW_none : errW none = .nilIface := rfl
theorem errW_some (c : Int) : errW (some c) = .iface 0 (.int .i64 c) := rfl

-- the values' own types

end Go.Proofs.YtpibhoaegbeonaaDoor.PFnExactMirrorOf
