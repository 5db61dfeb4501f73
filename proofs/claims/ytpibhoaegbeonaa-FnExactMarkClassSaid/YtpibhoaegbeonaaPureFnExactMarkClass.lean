/- The program's MarkClass returns what the reference's returns. For every input: the law answers true; each argument reads afterwards as it read before. -/
import Derived.Test.YtpibhoaegbeonaaPFnExactMarkClassx
import Derived.Test.YtpibhoaegbeonaaLib
namespace Go.Proofs.Ytpibhoaegbeonaa.Pure
open Go.RowKit Go.Proofs.Ytpibhoaegbeonaa.PFnExactMarkClass Go.Proofs.YtpibhoaegbeonaaW.PrintWords Go.Proofs.YtpibhoaegbeonaaW.PrintLast Go.Proofs.Ytpibhoaegbeonaa.Lib

theorem FnExactMarkClass : laws_FnExactMarkClass.Pure := by
  intro a0 h
  have hb := bd64 h
  refine ⟨1, ?_⟩
  unfold laws_FnExactMarkClass.f spec_MarkClass.f spec_l01Class.f impl_MarkClass.f impl_in.f
  by_cases h1 : a0 = 1584
  · rw [if_pos h1, if_pos h1]; rfl
  by_cases h2 : a0 = 1585
  · rw [if_neg h1, if_neg h1, if_pos h2, if_pos h2]; rfl
  rw [if_neg h1, if_neg h1, if_neg h2, if_neg h2]
  by_cases h3 : a0 < 4096
  · rw [if_pos h3, if_neg (show ¬ a0 ≥ 4096 by omega)]; simp [spec_l01Class.j0]
  rw [if_neg h3, if_pos (show a0 ≥ 4096 by omega)]
  by_cases h4 : a0 > 4159
  · simp [spec_l01Class.j0, h4, show ¬ a0 ≤ 4159 by omega]
  have e : wrap64 (a0 - 4096) = a0 - 4096 := w64 (by omega) (by omega)
  simp only [spec_l01Class.j0, e, decide_eq_true_eq, if_neg h4, Option.bind_some, show a0 ≤ 4159 by omega, if_true,
    show (a0 - 4096 < 16) = (a0 < 4112) from propext ⟨by omega, by omega⟩, show (a0 - 4096 < 32) = (a0 < 4128) from propext ⟨by omega, by omega⟩,
    show (a0 - 4096 < 40) = (a0 < 4136) from propext ⟨by omega, by omega⟩, show (a0 - 4096 < 48) = (a0 < 4144) from propext ⟨by omega, by omega⟩,
    show (a0 - 4096 < 56) = (a0 < 4152) from propext ⟨by omega, by omega⟩]
  by_cases c1 : a0 < 4112
  · simp [c1]
  by_cases c2 : a0 < 4128
  · simp [c1, c2]
  by_cases c3 : a0 < 4136
  · simp [c1, c2, c3]
  by_cases c4 : a0 < 4144
  · simp [c1, c2, c3, c4]
  by_cases c5 : a0 < 4152
  · simp [c1, c2, c3, c4, c5]
  · simp [c1, c2, c3, c4, c5]

end Go.Proofs.Ytpibhoaegbeonaa.Pure
