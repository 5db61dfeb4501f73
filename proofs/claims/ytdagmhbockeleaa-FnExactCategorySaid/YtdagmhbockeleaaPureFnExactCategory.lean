/- The program's Category returns what the reference's returns. For every input: the law answers true; each argument reads afterwards as it read before. -/
import Derived.Test.YtdagmhbockeleaaPFnExactCategoryx
import Derived.Test.YtdagmhbockeleaaLib
import Derived.Test.YtdagmhbockeleaaKindCategory
set_option linter.unusedSimpArgs false
set_option linter.unusedVariables false
namespace Go.Proofs.Ytdagmhbockeleaa.Pure
open Go.RowKit Go.Proofs.Ytdagmhbockeleaa.PFnExactCategory Go.Proofs.YtdagmhbockeleaaW.PrintWords Go.Proofs.YtdagmhbockeleaaW.PrintLast Go.Proofs.Ytdagmhbockeleaa.Lib

theorem FnExactCategory : laws_FnExactCategory.Pure := by
  intro p hp
  have hb := bd64 hp
  refine ⟨42, ?_⟩
  unfold laws_FnExactCategory.f spec_Category.f spec_l01Cat.f impl_Category.f
  rw [known_eq 42 (by omega) p hb, kind_eq 42 (by omega) p hb]
  simp

end Go.Proofs.Ytdagmhbockeleaa.Pure
