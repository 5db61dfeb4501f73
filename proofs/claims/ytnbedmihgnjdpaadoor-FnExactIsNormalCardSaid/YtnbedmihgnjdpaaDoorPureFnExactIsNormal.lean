/- The program's IsNormal returns what the reference's returns. For every input: the law answers true; each argument reads afterwards as it read before. -/
import Derived.Test.YtnbedmihgnjdpaaDoorNormTIsNormal
set_option linter.unusedSimpArgs false
set_option linter.unusedVariables false
namespace Go.Proofs.YtnbedmihgnjdpaaDoor.Pure
open Go.RowKit Go.Proofs.YtnbedmihgnjdpaaDoor.PFnExactIsNormal Go.Proofs.YtnbedmihgnjdpaaDoorW.PrintWords Go.Proofs.YtnbedmihgnjdpaaDoorW.PrintLast Go.Proofs.YtnbedmihgnjdpaaDoorW.PrintMore Go.Proofs.YtnbedmihgnjdpaaDoor.Lib

theorem FnExactIsNormal : laws_FnExactIsNormal.Pure := by
  intro f s hf hs
  refine Ev.rounds (g := fun k => laws_FnExactIsNormal.f k f s) ?_
  unfold laws_FnExactIsNormal.f
  by_cases c : (s.size : Int) > 1048576
  · simp only [if_pos c]; exact Ev.now _
  simp only [if_neg c]
  refine Ev.bind (g := fun k => spec_IsNormal.f k f s) (isN_spec f s (by omega)) ?_
  refine Ev.bind (g := fun k => impl_IsNormal.f k f s) (isN_impl f s (by omega)) ?_
  simp only [bne_self_eq_false, Bool.false_eq_true, if_false]
  exact Ev.now _
end Go.Proofs.YtnbedmihgnjdpaaDoor.Pure
