-- Written by a program of this session (wip/tools/myprint.py) that runs the kit's print with hooks of its own. Lean checks it.
import Derived.Test.YtogdmjcdfjnifaaPFnExactLessSetsx0
import Derived.Test.YtogdmjcdfjnifaaPFnExactLessSetsx1
import Derived.Test.YtogdmjcdfjnifaaPFnExactLessSetsx2
import Derived.Test.YtogdmjcdfjnifaaPFnExactLessSetsx3
import Derived.Test.YtogdmjcdfjnifaaPFnExactLessSetsx4
import Derived.Test.YtogdmjcdfjnifaaPFnExactLessSetsx5
import Derived.Test.YtogdmjcdfjnifaaPFnExactLessSetsx6
import Derived.Test.YtogdmjcdfjnifaaPFnExactLessSetsx7
namespace Go.Proofs.Ytogdmjcdfjnifaa.PFnExactLessSets
open Go.RowKit Go.Proofs.YtogdmjcdfjnifaaW.PrintWords Go.Proofs.YtogdmjcdfjnifaaW.PrintLast Go.Proofs.YtogdmjcdfjnifaaW.PrintMore
attribute [local go_sem] max2_int min2_int max_two min_two max_three min_three max_four min_four   -- for this text's walks alone
set_option linter.unusedVariables false
set_option linter.unusedSimpArgs false

end Go.Proofs.Ytogdmjcdfjnifaa.PFnExactLessSets
