-- Written by a program of this session (wip/tools/myprint.py) that runs the kit's print with hooks of its own. Lean checks it.
import Derived.Test.YtpibhoaegbeonaaDoorPFnExactMirrorOfx0
import Derived.Test.YtpibhoaegbeonaaDoorPFnExactMirrorOfx1
namespace Go.Proofs.YtpibhoaegbeonaaDoor.PFnExactMirrorOf
open Go.RowKit Go.Proofs.YtpibhoaegbeonaaDoorW.PrintWords Go.Proofs.YtpibhoaegbeonaaDoorW.PrintLast Go.Proofs.YtpibhoaegbeonaaDoorW.PrintMore
attribute [local go_sem] max2_int min2_int max_two min_two max_three min_three max_four min_four   -- for this text's walks alone
set_option linter.unusedVariables false
set_option linter.unusedSimpArgs false

end Go.Proofs.YtpibhoaegbeonaaDoor.PFnExactMirrorOf
