-- Written by a program of this session (wip/tools/myprint.py) that runs the kit's print with hooks of its own. Lean checks it.
import Derived.Test.YtdagmhbockeleaaPFnExactDecodeShiftx0
import Derived.Test.YtdagmhbockeleaaPFnExactDecodeShiftx1
import Derived.Test.YtdagmhbockeleaaPFnExactDecodeShiftx2
import Derived.Test.YtdagmhbockeleaaPFnExactDecodeShiftx3
import Derived.Test.YtdagmhbockeleaaPFnExactDecodeShiftx4
import Derived.Test.YtdagmhbockeleaaPFnExactDecodeShiftx5
namespace Go.Proofs.Ytdagmhbockeleaa.PFnExactDecodeShift
open Go.RowKit Go.Proofs.YtdagmhbockeleaaW.PrintWords Go.Proofs.YtdagmhbockeleaaW.PrintLast Go.Proofs.YtdagmhbockeleaaW.PrintMore
attribute [local go_sem] max2_int min2_int max_two min_two max_three min_three max_four min_four   -- for this text's walks alone
set_option linter.unusedVariables false
set_option linter.unusedSimpArgs false

end Go.Proofs.Ytdagmhbockeleaa.PFnExactDecodeShift
