-- Written by a program of this session (wip/tools/myprint.py) that runs the kit's print with hooks of its own. Lean checks it.
import Derived.Test.YtogdmjcdfjnifaaDoorPFnExactPackTriex0
import Derived.Test.YtogdmjcdfjnifaaDoorPFnExactPackTriex1
import Derived.Test.YtogdmjcdfjnifaaDoorPFnExactPackTriex2
import Derived.Test.YtogdmjcdfjnifaaDoorPFnExactPackTriex3
import Derived.Test.YtogdmjcdfjnifaaDoorPFnExactPackTriex4
import Derived.Test.YtogdmjcdfjnifaaDoorPFnExactPackTriex5
namespace Go.Proofs.YtogdmjcdfjnifaaDoor.PFnExactPackTrie
open Go.RowKit Go.Proofs.YtogdmjcdfjnifaaDoorW.PrintWords Go.Proofs.YtogdmjcdfjnifaaDoorW.PrintLast Go.Proofs.YtogdmjcdfjnifaaDoorW.PrintMore
attribute [local go_sem] max2_int min2_int max_two min_two max_three min_three max_four min_four   -- for this text's walks alone
set_option linter.unusedVariables false
set_option linter.unusedSimpArgs false

end Go.Proofs.YtogdmjcdfjnifaaDoor.PFnExactPackTrie
