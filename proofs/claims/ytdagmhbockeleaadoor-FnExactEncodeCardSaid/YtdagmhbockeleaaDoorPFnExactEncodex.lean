-- Written by a program of this session (wip/tools/myprint.py) that runs the kit's print with hooks of its own. Lean checks it.
import Derived.Test.YtdagmhbockeleaaDoorPFnExactEncodex0
import Derived.Test.YtdagmhbockeleaaDoorPFnExactEncodex1
import Derived.Test.YtdagmhbockeleaaDoorPFnExactEncodex2
import Derived.Test.YtdagmhbockeleaaDoorPFnExactEncodex3
import Derived.Test.YtdagmhbockeleaaDoorPFnExactEncodex4
namespace Go.Proofs.YtdagmhbockeleaaDoor.PFnExactEncode
open Go.RowKit Go.Proofs.YtdagmhbockeleaaDoorW.PrintWords Go.Proofs.YtdagmhbockeleaaDoorW.PrintLast Go.Proofs.YtdagmhbockeleaaDoorW.PrintMore
attribute [local go_sem] max2_int min2_int max_two min_two max_three min_three max_four min_four   -- for this text's walks alone
set_option linter.unusedVariables false
set_option linter.unusedSimpArgs false

end Go.Proofs.YtdagmhbockeleaaDoor.PFnExactEncode
