/- The program's Script returns what the reference's returns. For every input: the law answers true; each argument reads afterwards as it read before. -/
import Derived.Test.YtdagmhbockeleaaPFnExactScriptx
import Derived.Test.YtdagmhbockeleaaLib
import Derived.Test.YtdagmhbockeleaaKindScript
set_option linter.unusedSimpArgs false
set_option linter.unusedVariables false
namespace Go.Proofs.Ytdagmhbockeleaa.Pure
open Go.RowKit Go.Proofs.Ytdagmhbockeleaa.PFnExactScript Go.Proofs.YtdagmhbockeleaaW.PrintWords Go.Proofs.YtdagmhbockeleaaW.PrintLast Go.Proofs.Ytdagmhbockeleaa.Lib

theorem FnExactScript : laws_FnExactScript.Pure := by
  intro p hp
  have hb := bd64 hp
  refine ⟨42, ?_⟩
  unfold laws_FnExactScript.f spec_Script.f spec_l01Script.f impl_Script.f
  rw [known_eq 42 (by omega) p hb, kind_eq 42 (by omega) p hb]
  simp

end Go.Proofs.Ytdagmhbockeleaa.Pure
