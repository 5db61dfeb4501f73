-- Written by a program of this session (wip/tools/myprint.py) that runs the kit's print with hooks of its own. Lean checks it.
import Derived.Test.YtnbedmihgnjdpaaDoorPFnExactEquivalentx0
import Derived.Test.YtnbedmihgnjdpaaDoorPFnExactEquivalentx1
import Derived.Test.YtnbedmihgnjdpaaDoorPFnExactEquivalentx2
import Derived.Test.YtnbedmihgnjdpaaDoorPFnExactEquivalentx3
import Derived.Test.YtnbedmihgnjdpaaDoorPFnExactEquivalentx4
import Derived.Test.YtnbedmihgnjdpaaDoorPFnExactEquivalentx5
import Derived.Test.YtnbedmihgnjdpaaDoorPFnExactEquivalentx6
import Derived.Test.YtnbedmihgnjdpaaDoorPFnExactEquivalentx7
import Derived.Test.YtnbedmihgnjdpaaDoorPFnExactEquivalentx8
import Derived.Test.YtnbedmihgnjdpaaDoorPFnExactEquivalentx9
import Derived.Test.YtnbedmihgnjdpaaDoorPFnExactEquivalentx10
import Derived.Test.YtnbedmihgnjdpaaDoorPFnExactEquivalentx11
namespace Go.Proofs.YtnbedmihgnjdpaaDoor.PFnExactEquivalent
open Go.RowKit Go.Proofs.YtnbedmihgnjdpaaDoorW.PrintWords Go.Proofs.YtnbedmihgnjdpaaDoorW.PrintLast Go.Proofs.YtnbedmihgnjdpaaDoorW.PrintMore
attribute [local go_sem] max2_int min2_int max_two min_two max_three min_three max_four min_four   -- for this text's walks alone
set_option linter.unusedVariables false
set_option linter.unusedSimpArgs false

end Go.Proofs.YtnbedmihgnjdpaaDoor.PFnExactEquivalent
