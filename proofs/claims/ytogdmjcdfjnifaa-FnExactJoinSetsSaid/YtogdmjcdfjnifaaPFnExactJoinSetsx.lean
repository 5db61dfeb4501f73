-- Written by a program of this session (wip/tools/myprint.py) that runs the kit's print with hooks of its own. Lean checks it.
import Derived.Test.YtogdmjcdfjnifaaPFnExactJoinSetsx0
import Derived.Test.YtogdmjcdfjnifaaPFnExactJoinSetsx1
import Derived.Test.YtogdmjcdfjnifaaPFnExactJoinSetsx2
import Derived.Test.YtogdmjcdfjnifaaPFnExactJoinSetsx3
import Derived.Test.YtogdmjcdfjnifaaPFnExactJoinSetsx4
import Derived.Test.YtogdmjcdfjnifaaPFnExactJoinSetsx5
import Derived.Test.YtogdmjcdfjnifaaPFnExactJoinSetsx6
import Derived.Test.YtogdmjcdfjnifaaPFnExactJoinSetsx7
namespace Go.Proofs.Ytogdmjcdfjnifaa.PFnExactJoinSets
open Go.RowKit Go.Proofs.YtogdmjcdfjnifaaW.PrintWords Go.Proofs.YtogdmjcdfjnifaaW.PrintLast Go.Proofs.YtogdmjcdfjnifaaW.PrintMore
attribute [local go_sem] max2_int min2_int max_two min_two max_three min_three max_four min_four   -- for this text's walks alone
set_option linter.unusedVariables false
set_option linter.unusedSimpArgs false

end Go.Proofs.Ytogdmjcdfjnifaa.PFnExactJoinSets
