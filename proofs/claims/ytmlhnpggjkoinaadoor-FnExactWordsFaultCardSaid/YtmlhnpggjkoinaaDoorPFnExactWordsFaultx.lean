-- Written by a program of this session (wip/tools/myprint.py) that runs the kit's print with hooks of its own. Lean checks it.
import Derived.Test.YtmlhnpggjkoinaaDoorPFnExactWordsFaultx0
import Derived.Test.YtmlhnpggjkoinaaDoorPFnExactWordsFaultx1
import Derived.Test.YtmlhnpggjkoinaaDoorPFnExactWordsFaultx2
import Derived.Test.YtmlhnpggjkoinaaDoorPFnExactWordsFaultx3
import Derived.Test.YtmlhnpggjkoinaaDoorPFnExactWordsFaultx4
import Derived.Test.YtmlhnpggjkoinaaDoorPFnExactWordsFaultx5
import Derived.Test.YtmlhnpggjkoinaaDoorPFnExactWordsFaultx6
import Derived.Test.YtmlhnpggjkoinaaDoorPFnExactWordsFaultx7
namespace Go.Proofs.YtmlhnpggjkoinaaDoor.PFnExactWordsFault
open Go.RowKit Go.Proofs.YtmlhnpggjkoinaaDoorW.PrintWords Go.Proofs.YtmlhnpggjkoinaaDoorW.PrintLast Go.Proofs.YtmlhnpggjkoinaaDoorW.PrintMore
attribute [local go_sem] max2_int min2_int max_two min_two max_three min_three max_four min_four   -- for this text's walks alone
set_option linter.unusedVariables false
set_option linter.unusedSimpArgs false

end Go.Proofs.YtmlhnpggjkoinaaDoor.PFnExactWordsFault
