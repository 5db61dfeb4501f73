-- Written by a program of this session (wip/tools/myprint.py) that runs the kit's print with hooks of its own. Lean checks it.
import Derived.Test.YtdagmhbockeleaaPFnExactDecomposex0
import Derived.Test.YtdagmhbockeleaaPFnExactDecomposex1
import Derived.Test.YtdagmhbockeleaaPFnExactDecomposex2
import Derived.Test.YtdagmhbockeleaaPFnExactDecomposex3
import Derived.Test.YtdagmhbockeleaaPFnExactDecomposex4
namespace Go.Proofs.Ytdagmhbockeleaa.PFnExactDecompose
open Go.RowKit Go.Proofs.YtdagmhbockeleaaW.PrintWords Go.Proofs.YtdagmhbockeleaaW.PrintLast Go.Proofs.YtdagmhbockeleaaW.PrintMore
attribute [local go_sem] max2_int min2_int max_two min_two max_three min_three max_four min_four   -- for this text's walks alone
set_option linter.unusedVariables false
set_option linter.unusedSimpArgs false

end Go.Proofs.Ytdagmhbockeleaa.PFnExactDecompose
