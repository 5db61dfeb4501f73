-- Written by a program of this session (wip/tools/myprint.py) that runs the kit's print with hooks of its own. Lean checks it.
import Derived.Test.YthjkfmdfkndpcaaPFnExactSelectedx0
import Derived.Test.YthjkfmdfkndpcaaPFnExactSelectedx1
import Derived.Test.YthjkfmdfkndpcaaPFnExactSelectedx2
import Derived.Test.YthjkfmdfkndpcaaPFnExactSelectedx3
import Derived.Test.YthjkfmdfkndpcaaPFnExactSelectedx4
import Derived.Test.YthjkfmdfkndpcaaPFnExactSelectedx5
import Derived.Test.YthjkfmdfkndpcaaPFnExactSelectedx6
import Derived.Test.YthjkfmdfkndpcaaPFnExactSelectedx7
namespace Go.Proofs.Ythjkfmdfkndpcaa.PFnExactSelected
open Go.RowKit Go.Proofs.YthjkfmdfkndpcaaW.PrintWords Go.Proofs.YthjkfmdfkndpcaaW.PrintLast Go.Proofs.YthjkfmdfkndpcaaW.PrintMore
attribute [local go_sem] max2_int min2_int max_two min_two max_three min_three max_four min_four   -- for this text's walks alone
set_option linter.unusedVariables false
set_option linter.unusedSimpArgs false

end Go.Proofs.Ythjkfmdfkndpcaa.PFnExactSelected
