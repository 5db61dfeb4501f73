-- Written by a program of this session (wip/tools/myprint.py) that runs the kit's print with hooks of its own. Lean checks it.
import Derived.Test.YtnbedmihgnjdpaaDoorPFnExactEndNormerx0
import Derived.Test.YtnbedmihgnjdpaaDoorPFnExactEndNormerx1
import Derived.Test.YtnbedmihgnjdpaaDoorPFnExactEndNormerx2
import Derived.Test.YtnbedmihgnjdpaaDoorPFnExactEndNormerx3
import Derived.Test.YtnbedmihgnjdpaaDoorPFnExactEndNormerx4
import Derived.Test.YtnbedmihgnjdpaaDoorPFnExactEndNormerx5
import Derived.Test.YtnbedmihgnjdpaaDoorPFnExactEndNormerx6
import Derived.Test.YtnbedmihgnjdpaaDoorPFnExactEndNormerx7
import Derived.Test.YtnbedmihgnjdpaaDoorPFnExactEndNormerx8
import Derived.Test.YtnbedmihgnjdpaaDoorPFnExactEndNormerx9
import Derived.Test.YtnbedmihgnjdpaaDoorPFnExactEndNormerx10
import Derived.Test.YtnbedmihgnjdpaaDoorPFnExactEndNormerx11
import Derived.Test.YtnbedmihgnjdpaaDoorPFnExactEndNormerx12
import Derived.Test.YtnbedmihgnjdpaaDoorPFnExactEndNormerx13
import Derived.Test.YtnbedmihgnjdpaaDoorPFnExactEndNormerx14
namespace Go.Proofs.YtnbedmihgnjdpaaDoor.PFnExactEndNormer
open Go.RowKit Go.Proofs.YtnbedmihgnjdpaaDoorW.PrintWords Go.Proofs.YtnbedmihgnjdpaaDoorW.PrintLast Go.Proofs.YtnbedmihgnjdpaaDoorW.PrintMore
attribute [local go_sem] max2_int min2_int max_two min_two max_three min_three max_four min_four   -- for this text's walks alone
set_option linter.unusedVariables false
set_option linter.unusedSimpArgs false

end Go.Proofs.YtnbedmihgnjdpaaDoor.PFnExactEndNormer
