-- Written by a program of this session (wip/tools/myprint.py) that runs the kit's print with hooks of its own. Lean checks it.
import Derived.Test.YtnbedmihgnjdpaaDoorPFnExactNormerFaultx0
import Derived.Test.YtnbedmihgnjdpaaDoorPFnExactNormerFaultx1
import Derived.Test.YtnbedmihgnjdpaaDoorPFnExactNormerFaultx2
import Derived.Test.YtnbedmihgnjdpaaDoorPFnExactNormerFaultx3
import Derived.Test.YtnbedmihgnjdpaaDoorPFnExactNormerFaultx4
import Derived.Test.YtnbedmihgnjdpaaDoorPFnExactNormerFaultx5
import Derived.Test.YtnbedmihgnjdpaaDoorPFnExactNormerFaultx6
import Derived.Test.YtnbedmihgnjdpaaDoorPFnExactNormerFaultx7
namespace Go.Proofs.YtnbedmihgnjdpaaDoor.PFnExactNormerFault
open Go.RowKit Go.Proofs.YtnbedmihgnjdpaaDoorW.PrintWords Go.Proofs.YtnbedmihgnjdpaaDoorW.PrintLast Go.Proofs.YtnbedmihgnjdpaaDoorW.PrintMore
attribute [local go_sem] max2_int min2_int max_two min_two max_three min_three max_four min_four   -- for this text's walks alone
set_option linter.unusedVariables false
set_option linter.unusedSimpArgs false

end Go.Proofs.YtnbedmihgnjdpaaDoor.PFnExactNormerFault
