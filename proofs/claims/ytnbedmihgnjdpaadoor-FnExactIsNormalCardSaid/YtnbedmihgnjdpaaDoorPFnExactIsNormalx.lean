-- Written by a program of this session (wip/tools/myprint.py) that runs the kit's print with hooks of its own. Lean checks it.
import Derived.Test.YtnbedmihgnjdpaaDoorPFnExactIsNormalx0
import Derived.Test.YtnbedmihgnjdpaaDoorPFnExactIsNormalx1
import Derived.Test.YtnbedmihgnjdpaaDoorPFnExactIsNormalx2
import Derived.Test.YtnbedmihgnjdpaaDoorPFnExactIsNormalx3
import Derived.Test.YtnbedmihgnjdpaaDoorPFnExactIsNormalx4
import Derived.Test.YtnbedmihgnjdpaaDoorPFnExactIsNormalx5
import Derived.Test.YtnbedmihgnjdpaaDoorPFnExactIsNormalx6
import Derived.Test.YtnbedmihgnjdpaaDoorPFnExactIsNormalx7
import Derived.Test.YtnbedmihgnjdpaaDoorPFnExactIsNormalx8
import Derived.Test.YtnbedmihgnjdpaaDoorPFnExactIsNormalx9
import Derived.Test.YtnbedmihgnjdpaaDoorPFnExactIsNormalx10
import Derived.Test.YtnbedmihgnjdpaaDoorPFnExactIsNormalx11
namespace Go.Proofs.YtnbedmihgnjdpaaDoor.PFnExactIsNormal
open Go.RowKit Go.Proofs.YtnbedmihgnjdpaaDoorW.PrintWords Go.Proofs.YtnbedmihgnjdpaaDoorW.PrintLast Go.Proofs.YtnbedmihgnjdpaaDoorW.PrintMore
attribute [local go_sem] max2_int min2_int max_two min_two max_three min_three max_four min_four   -- for this text's walks alone
set_option linter.unusedVariables false
set_option linter.unusedSimpArgs false

end Go.Proofs.YtnbedmihgnjdpaaDoor.PFnExactIsNormal
