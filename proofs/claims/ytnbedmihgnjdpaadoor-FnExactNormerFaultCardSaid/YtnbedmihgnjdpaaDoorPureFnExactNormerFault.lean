/- The program's NormerFault returns what the reference's returns. For every input: the law answers true; each argument reads afterwards as it read before. -/
import Derived.Test.YtnbedmihgnjdpaaDoorNormerFNormerFault
set_option linter.unusedSimpArgs false
set_option linter.unusedVariables false
namespace Go.Proofs.YtnbedmihgnjdpaaDoor.Pure
open Go.RowKit Go.Proofs.YtnbedmihgnjdpaaDoor.PFnExactNormerFault Go.Proofs.YtnbedmihgnjdpaaDoorW.PrintWords Go.Proofs.YtnbedmihgnjdpaaDoorW.PrintLast Go.Proofs.YtnbedmihgnjdpaaDoorW.PrintMore Go.Proofs.YtnbedmihgnjdpaaDoor.Lib

theorem FnExactNormerFault : laws_FnExactNormerFault.Pure := by
  intro f s hf hs
  refine ⟨1048700, ?_⟩
  unfold laws_FnExactNormerFault.f laws_szNormer.f laws_toNormer.f
  have hm : s.size ≤ 1000000000000000000 := Nat.le_trans hs (by decide)
  rw [w64 (x := 1048576 - (s.size : Int)) (by omega) (by omega)]
  by_cases c : (1048576 : Int) - (s.size : Int) < 0
  · rw [if_pos c, Option.bind_some, if_pos (by decide)]
  · rw [if_neg c, Option.bind_some, if_neg c, Option.bind_some]
    simp only [Option.bind_some]
    rw [spec_nf f s (by omega) _ (by omega)]
    simp only [Option.bind_some]
    rw [impl_nf f s (by omega) _ (by omega)]
    simp only [Option.bind_some, if_true]

end Go.Proofs.YtnbedmihgnjdpaaDoor.Pure
