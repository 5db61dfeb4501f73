/- The program's constants are the reference's. For every input: the law answers true; each argument reads afterwards as it read before. -/
import Derived.Test.YtpibhoaegbeonaaPFnExactConstantsx
import Derived.Test.YtpibhoaegbeonaaLib
namespace Go.Proofs.Ytpibhoaegbeonaa.Pure
open Go.RowKit Go.Proofs.Ytpibhoaegbeonaa.PFnExactConstants Go.Proofs.YtpibhoaegbeonaaW.PrintWords Go.Proofs.YtpibhoaegbeonaaW.PrintLast Go.Proofs.Ytpibhoaegbeonaa.Lib

theorem FnExactConstants : laws_FnExactConstants.Pure := by
  unfold laws_FnExactConstants.Pure laws_FnExactConstants.f
  rfl

end Go.Proofs.Ytpibhoaegbeonaa.Pure
