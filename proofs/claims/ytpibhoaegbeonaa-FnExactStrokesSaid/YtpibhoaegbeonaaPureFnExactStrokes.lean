/- The program's Strokes returns what the reference's returns. For every input: the law answers true; each argument reads afterwards as it read before. -/
import Derived.Test.YtpibhoaegbeonaaPFnExactStrokesx
import Derived.Test.YtpibhoaegbeonaaLib
namespace Go.Proofs.Ytpibhoaegbeonaa.Pure
open Go.RowKit Go.Proofs.Ytpibhoaegbeonaa.PFnExactStrokes Go.Proofs.YtpibhoaegbeonaaW.PrintWords Go.Proofs.YtpibhoaegbeonaaW.PrintLast Go.Proofs.Ytpibhoaegbeonaa.Lib

theorem FnExactStrokes : laws_FnExactStrokes.Pure := by
  intro a0 _
  unfold laws_FnExactStrokes.f spec_Strokes.f impl_Strokes.f impl_in.f
  by_cases h1 : a0 < 24576
  · rw [if_pos h1, if_neg (show ¬ a0 ≥ 24576 by omega)]; simp
  · rw [if_neg h1, if_pos (show a0 ≥ 24576 by omega)]
    by_cases h2 : a0 > 26623
    · rw [if_pos h2]; simp [show ¬ a0 ≤ 26623 by omega]
    · rw [if_neg h2]; simp [show a0 ≤ 26623 by omega]

end Go.Proofs.Ytpibhoaegbeonaa.Pure
