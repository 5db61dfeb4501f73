-- Written by a program of this session (wip/tools/myprint.py) that runs the kit's print with hooks of its own. Lean checks it.
import Derived.Test.YthjkfmdfkndpcaaPFnExactPlaceOfx0
import Derived.Test.YthjkfmdfkndpcaaPFnExactPlaceOfx1
import Derived.Test.YthjkfmdfkndpcaaPFnExactPlaceOfx2
import Derived.Test.YthjkfmdfkndpcaaPFnExactPlaceOfx3
import Derived.Test.YthjkfmdfkndpcaaPFnExactPlaceOfx4
import Derived.Test.YthjkfmdfkndpcaaPFnExactPlaceOfx5
import Derived.Test.YthjkfmdfkndpcaaPFnExactPlaceOfx6
namespace Go.Proofs.Ythjkfmdfkndpcaa.PFnExactPlaceOf
open Go.RowKit Go.Proofs.YthjkfmdfkndpcaaW.PrintWords Go.Proofs.YthjkfmdfkndpcaaW.PrintLast Go.Proofs.YthjkfmdfkndpcaaW.PrintMore
attribute [local go_sem] max2_int min2_int max_two min_two max_three min_three max_four min_four   -- for this text's walks alone
set_option linter.unusedVariables false
set_option linter.unusedSimpArgs false

end Go.Proofs.Ythjkfmdfkndpcaa.PFnExactPlaceOf
