-- Written by a program of this session (wip/tools/myprint.py) that runs the kit's print with hooks of its own. Lean checks it.
import Derived.Test.YtmlhnpggjkoinaaDoorPFnExactCharCutsx0
import Derived.Test.YtmlhnpggjkoinaaDoorPFnExactCharCutsx1
import Derived.Test.YtmlhnpggjkoinaaDoorPFnExactCharCutsx2
import Derived.Test.YtmlhnpggjkoinaaDoorPFnExactCharCutsx3
import Derived.Test.YtmlhnpggjkoinaaDoorPFnExactCharCutsx4
import Derived.Test.YtmlhnpggjkoinaaDoorPFnExactCharCutsx5
import Derived.Test.YtmlhnpggjkoinaaDoorPFnExactCharCutsx6
import Derived.Test.YtmlhnpggjkoinaaDoorPFnExactCharCutsx7
import Derived.Test.YtmlhnpggjkoinaaDoorPFnExactCharCutsx8
import Derived.Test.YtmlhnpggjkoinaaDoorPFnExactCharCutsx9
import Derived.Test.YtmlhnpggjkoinaaDoorPFnExactCharCutsx10
import Derived.Test.YtmlhnpggjkoinaaDoorPFnExactCharCutsx11
namespace Go.Proofs.YtmlhnpggjkoinaaDoor.PFnExactCharCuts
open Go.RowKit Go.Proofs.YtmlhnpggjkoinaaDoorW.PrintWords Go.Proofs.YtmlhnpggjkoinaaDoorW.PrintLast Go.Proofs.YtmlhnpggjkoinaaDoorW.PrintMore
attribute [local go_sem] max2_int min2_int max_two min_two max_three min_three max_four min_four   -- for this text's walks alone
set_option linter.unusedVariables false
set_option linter.unusedSimpArgs false

end Go.Proofs.YtmlhnpggjkoinaaDoor.PFnExactCharCuts
