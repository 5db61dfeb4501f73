/- The program's FormsOf returns what the reference's returns. For every input: the law answers true; each argument reads afterwards as it read before. -/
import Derived.Test.YtmlhnpggjkoinaaDoorPFnExactFormsOfx
import Derived.Test.YtmlhnpggjkoinaaDoorFormsFormsOf
import Derived.Test.YtmlhnpggjkoinaaDoorPointsFormsOf
import Derived.Test.YtmlhnpggjkoinaaDoorOutInt64SFormsOf
set_option linter.unusedSimpArgs false
set_option linter.unusedVariables false
namespace Go.Proofs.YtmlhnpggjkoinaaDoor.Pure
open Go.RowKit Go.Proofs.YtmlhnpggjkoinaaDoor.PFnExactFormsOf Go.Proofs.YtmlhnpggjkoinaaDoorW.PrintWords Go.Proofs.YtmlhnpggjkoinaaDoorW.PrintLast Go.Proofs.YtmlhnpggjkoinaaDoorW.PrintMore Go.Proofs.YtmlhnpggjkoinaaDoor.Lib

def formsIn (s : ByteArray) : List Int := if (s.size : Int) > 65536 then [] else formsF (pts s)
theorem spec_eq (s : ByteArray) (hs : s.size ≤ 1048576) (k : Nat) (hk : 2097352 ≤ k) : spec_FormsOf.f k s = some (formsIn s) := by
  have hl := pts_len s
  unfold spec_FormsOf.f formsIn
  split
  · rfl
  · rw [specPoints_eq s k (by omega) hs]
    simp only [Option.bind_some]
    rw [forms_spec (pts s) (by omega) (pts_pt s) k (by omega)]
    rfl
theorem impl_eq (s : ByteArray) (hs : s.size ≤ 1048576) (k : Nat) (hk : 2097352 ≤ k) : impl_FormsOf.f k s = some (formsIn s) := by
  have hl := pts_len s
  unfold impl_FormsOf.f impl_long.f formsIn
  simp only [Option.bind_some, decide_eq_true_eq]
  split
  · rfl
  · rw [points_eq s k (by omega) hs]
    simp only [Option.bind_some]
    rw [forms_impl (pts s) (by omega) (pts_pt s) k (by omega)]
    rfl
theorem FnExactFormsOf : laws_FnExactFormsOf.Pure := by
  intro s _
  refine ⟨2097352, ?_⟩
  unfold laws_FnExactFormsOf.f
  by_cases c : (s.size : Int) > 1048576
  · rw [if_pos c]
  · have hs : s.size ≤ 1048576 := by omega
    have hl : (formsIn s).length ≤ 1048577 := by
      unfold formsIn
      split
      · simp
      · rw [formsF_len]; have := pts_len s; omega
    rw [if_neg c, spec_eq s hs _ (Nat.le_refl _)]
    simp only [Option.bind_some]
    rw [impl_eq s hs _ (Nat.le_refl _)]
    simp only [Option.bind_some]
    generalize formsIn s = l at hl
    rw [eqInt64S_eq l _ (by omega) (by omega)]
    simp only [Option.bind_some, if_true]
    rw [markInt64S_eq l _ (by omega) (by omega)]
    simp only [Option.bind_some]
    rw [heldInt64S_eq l _ (by omega) (by omega)]
    simp only [Option.bind_some, if_true]
    rw [if_neg (by omega), if_neg (by omega)]

end Go.Proofs.YtmlhnpggjkoinaaDoor.Pure
