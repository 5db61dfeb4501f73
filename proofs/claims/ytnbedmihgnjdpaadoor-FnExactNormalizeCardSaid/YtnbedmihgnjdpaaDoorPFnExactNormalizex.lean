-- Written by a program of this session (wip/tools/myprint.py) that runs the kit's print with hooks of its own. Lean checks it.
import Derived.Test.YtnbedmihgnjdpaaDoorPFnExactNormalizex0
import Derived.Test.YtnbedmihgnjdpaaDoorPFnExactNormalizex1
import Derived.Test.YtnbedmihgnjdpaaDoorPFnExactNormalizex2
import Derived.Test.YtnbedmihgnjdpaaDoorPFnExactNormalizex3
import Derived.Test.YtnbedmihgnjdpaaDoorPFnExactNormalizex4
import Derived.Test.YtnbedmihgnjdpaaDoorPFnExactNormalizex5
import Derived.Test.YtnbedmihgnjdpaaDoorPFnExactNormalizex6
import Derived.Test.YtnbedmihgnjdpaaDoorPFnExactNormalizex7
import Derived.Test.YtnbedmihgnjdpaaDoorPFnExactNormalizex8
import Derived.Test.YtnbedmihgnjdpaaDoorPFnExactNormalizex9
import Derived.Test.YtnbedmihgnjdpaaDoorPFnExactNormalizex10
import Derived.Test.YtnbedmihgnjdpaaDoorPFnExactNormalizex11
namespace Go.Proofs.YtnbedmihgnjdpaaDoor.PFnExactNormalize
open Go.RowKit Go.Proofs.YtnbedmihgnjdpaaDoorW.PrintWords Go.Proofs.YtnbedmihgnjdpaaDoorW.PrintLast Go.Proofs.YtnbedmihgnjdpaaDoorW.PrintMore
attribute [local go_sem] max2_int min2_int max_two min_two max_three min_three max_four min_four   -- for this text's walks alone
set_option linter.unusedVariables false
set_option linter.unusedSimpArgs false

end Go.Proofs.YtnbedmihgnjdpaaDoor.PFnExactNormalize
