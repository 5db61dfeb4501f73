/- The program's TextOf returns what the reference's returns. For every input: the law answers true; each argument reads afterwards as it read before. -/
import Derived.Test.YtpibhoaegbeonaaPFnExactTextOfx
import Derived.Test.YtpibhoaegbeonaaLib
import Derived.Test.YtpibhoaegbeonaaWriteTextOf
import Derived.Test.YtpibhoaegbeonaaInt64STextOf
namespace Go.Proofs.Ytpibhoaegbeonaa.Pure
open Go.RowKit Go.Proofs.Ytpibhoaegbeonaa.PFnExactTextOf Go.Proofs.YtpibhoaegbeonaaW.PrintWords Go.Proofs.YtpibhoaegbeonaaW.PrintLast Go.Proofs.Ytpibhoaegbeonaa.Lib

/-- What both come to. -/
def textOf (l : List Int) : ByteArray := if (l.length : Int) > 1000 then ⟨#[]⟩ else if (((strOfNums (encAll l)).size : Nat) : Int) > 65536 then ⟨#[]⟩ else strOfNums (encAll l)
theorem spec_eq (l : List Int) (k : Nat) (hk : l.length + 2 ≤ k) (hl : l.length ≤ 1048576) : spec_TextOf.f k l = some (textOf l) := by
  unfold spec_TextOf.f textOf
  split
  · rfl
  · rw [specText_eq l k hk (by omega)]
    simp only [Option.bind_some, spec_l01Small.f]
    split <;> rfl
theorem impl_eq (l : List Int) (k : Nat) (hk : l.length + 2 ≤ k) (hl : l.length ≤ 1048576) : impl_TextOf.f k l = some (textOf l) := by
  unfold impl_TextOf.f textOf
  split
  · rfl
  · rw [write_eq l k hk (by omega)]
    simp only [Option.bind_some, impl_short.f, impl_long.f, decide_eq_true_eq]
    split <;> rfl
theorem FnExactTextOf : laws_FnExactTextOf.Pure := by
  intro l h1 h2
  refine ⟨l.length + 2, ?_⟩
  unfold laws_FnExactTextOf.f
  by_cases c : (l.length : Int) > 1048576
  · rw [if_pos c]
  · rw [if_neg c, toInt64S_eq l _ (by omega) (by omega)]
    simp only [Option.bind_some]
    rw [spec_eq l _ (by omega) (by omega)]
    simp only [Option.bind_some]
    rw [impl_eq l _ (by omega) (by omega)]
    simp only [Option.bind_some]
    rw [if_pos trivial, eqInt64S_eq l _ (by omega) (by omega)]
    simp

end Go.Proofs.Ytpibhoaegbeonaa.Pure
