-- Written by a program of this session (wip/tools/myprint.py) that runs the kit's print with hooks of its own. Lean checks it.
import Derived.Test.YtogdmjcdfjnifaaPFnExactBuildTriex0
import Derived.Test.YtogdmjcdfjnifaaPFnExactBuildTriex1
import Derived.Test.YtogdmjcdfjnifaaPFnExactBuildTriex2
import Derived.Test.YtogdmjcdfjnifaaPFnExactBuildTriex3
import Derived.Test.YtogdmjcdfjnifaaPFnExactBuildTriex4
import Derived.Test.YtogdmjcdfjnifaaPFnExactBuildTriex5
import Derived.Test.YtogdmjcdfjnifaaPFnExactBuildTriex6
namespace Go.Proofs.Ytogdmjcdfjnifaa.PFnExactBuildTrie
open Go.RowKit Go.Proofs.YtogdmjcdfjnifaaW.PrintWords Go.Proofs.YtogdmjcdfjnifaaW.PrintLast Go.Proofs.YtogdmjcdfjnifaaW.PrintMore
attribute [local go_sem] max2_int min2_int max_two min_two max_three min_three max_four min_four   -- for this text's walks alone
set_option linter.unusedVariables false
set_option linter.unusedSimpArgs false

end Go.Proofs.Ytogdmjcdfjnifaa.PFnExactBuildTrie
