/- The program's Age returns what the reference's returns. For every input: the law answers true; each argument reads afterwards as it read before. -/
import Derived.Test.YtdagmhbockeleaaPFnExactAgex
import Derived.Test.YtdagmhbockeleaaLib
import Derived.Test.YtdagmhbockeleaaKindAge
set_option linter.unusedSimpArgs false
set_option linter.unusedVariables false
namespace Go.Proofs.Ytdagmhbockeleaa.Pure
open Go.RowKit Go.Proofs.Ytdagmhbockeleaa.PFnExactAge Go.Proofs.YtdagmhbockeleaaW.PrintWords Go.Proofs.YtdagmhbockeleaaW.PrintLast Go.Proofs.Ytdagmhbockeleaa.Lib

theorem FnExactAge : laws_FnExactAge.Pure := by
  intro p hp
  have hb := bd64 hp
  refine ⟨42, ?_⟩
  unfold laws_FnExactAge.f spec_Age.f spec_l01Age.f impl_Age.f spec_l01Cat.f impl_Category.f
  rw [known_eq 42 (by omega) p hb, kind_eq 42 (by omega) p hb]
  simp only [Option.bind_some]
  repeat' split
  all_goals simp

end Go.Proofs.Ytdagmhbockeleaa.Pure
