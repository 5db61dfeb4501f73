-- Written by a program of this session (wip/tools/myprint.py) that runs the kit's print with hooks of its own. Lean checks it.
import Derived.Test.YtnbedmihgnjdpaaDoorPFnExactJoinNormalx0
import Derived.Test.YtnbedmihgnjdpaaDoorPFnExactJoinNormalx1
import Derived.Test.YtnbedmihgnjdpaaDoorPFnExactJoinNormalx2
import Derived.Test.YtnbedmihgnjdpaaDoorPFnExactJoinNormalx3
import Derived.Test.YtnbedmihgnjdpaaDoorPFnExactJoinNormalx4
import Derived.Test.YtnbedmihgnjdpaaDoorPFnExactJoinNormalx5
import Derived.Test.YtnbedmihgnjdpaaDoorPFnExactJoinNormalx6
import Derived.Test.YtnbedmihgnjdpaaDoorPFnExactJoinNormalx7
import Derived.Test.YtnbedmihgnjdpaaDoorPFnExactJoinNormalx8
import Derived.Test.YtnbedmihgnjdpaaDoorPFnExactJoinNormalx9
import Derived.Test.YtnbedmihgnjdpaaDoorPFnExactJoinNormalx10
import Derived.Test.YtnbedmihgnjdpaaDoorPFnExactJoinNormalx11
import Derived.Test.YtnbedmihgnjdpaaDoorPFnExactJoinNormalx12
namespace Go.Proofs.YtnbedmihgnjdpaaDoor.PFnExactJoinNormal
open Go.RowKit Go.Proofs.YtnbedmihgnjdpaaDoorW.PrintWords Go.Proofs.YtnbedmihgnjdpaaDoorW.PrintLast Go.Proofs.YtnbedmihgnjdpaaDoorW.PrintMore
attribute [local go_sem] max2_int min2_int max_two min_two max_three min_three max_four min_four   -- for this text's walks alone
set_option linter.unusedVariables false
set_option linter.unusedSimpArgs false

end Go.Proofs.YtnbedmihgnjdpaaDoor.PFnExactJoinNormal
