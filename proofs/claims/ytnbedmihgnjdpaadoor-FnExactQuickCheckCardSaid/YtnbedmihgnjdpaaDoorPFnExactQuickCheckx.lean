-- Written by a program of this session (wip/tools/myprint.py) that runs the kit's print with hooks of its own. Lean checks it.
import Derived.Test.YtnbedmihgnjdpaaDoorPFnExactQuickCheckx0
import Derived.Test.YtnbedmihgnjdpaaDoorPFnExactQuickCheckx1
import Derived.Test.YtnbedmihgnjdpaaDoorPFnExactQuickCheckx2
import Derived.Test.YtnbedmihgnjdpaaDoorPFnExactQuickCheckx3
import Derived.Test.YtnbedmihgnjdpaaDoorPFnExactQuickCheckx4
import Derived.Test.YtnbedmihgnjdpaaDoorPFnExactQuickCheckx5
import Derived.Test.YtnbedmihgnjdpaaDoorPFnExactQuickCheckx6
import Derived.Test.YtnbedmihgnjdpaaDoorPFnExactQuickCheckx7
import Derived.Test.YtnbedmihgnjdpaaDoorPFnExactQuickCheckx8
import Derived.Test.YtnbedmihgnjdpaaDoorPFnExactQuickCheckx9
import Derived.Test.YtnbedmihgnjdpaaDoorPFnExactQuickCheckx10
import Derived.Test.YtnbedmihgnjdpaaDoorPFnExactQuickCheckx11
import Derived.Test.YtnbedmihgnjdpaaDoorPFnExactQuickCheckx12
namespace Go.Proofs.YtnbedmihgnjdpaaDoor.PFnExactQuickCheck
open Go.RowKit Go.Proofs.YtnbedmihgnjdpaaDoorW.PrintWords Go.Proofs.YtnbedmihgnjdpaaDoorW.PrintLast Go.Proofs.YtnbedmihgnjdpaaDoorW.PrintMore
attribute [local go_sem] max2_int min2_int max_two min_two max_three min_three max_four min_four   -- for this text's walks alone
set_option linter.unusedVariables false
set_option linter.unusedSimpArgs false

end Go.Proofs.YtnbedmihgnjdpaaDoor.PFnExactQuickCheck
