-- Written by a program of this session (wip/tools/myprint.py) that runs the kit's print with hooks of its own. Lean checks it.
import Derived.Test.YtmlhnpggjkoinaaDoorPFnExactCharsx0
import Derived.Test.YtmlhnpggjkoinaaDoorPFnExactCharsx1
import Derived.Test.YtmlhnpggjkoinaaDoorPFnExactCharsx2
import Derived.Test.YtmlhnpggjkoinaaDoorPFnExactCharsx3
import Derived.Test.YtmlhnpggjkoinaaDoorPFnExactCharsx4
import Derived.Test.YtmlhnpggjkoinaaDoorPFnExactCharsx5
import Derived.Test.YtmlhnpggjkoinaaDoorPFnExactCharsx6
import Derived.Test.YtmlhnpggjkoinaaDoorPFnExactCharsx7
import Derived.Test.YtmlhnpggjkoinaaDoorPFnExactCharsx8
import Derived.Test.YtmlhnpggjkoinaaDoorPFnExactCharsx9
import Derived.Test.YtmlhnpggjkoinaaDoorPFnExactCharsx10
import Derived.Test.YtmlhnpggjkoinaaDoorPFnExactCharsx11
import Derived.Test.YtmlhnpggjkoinaaDoorPFnExactCharsx12
import Derived.Test.YtmlhnpggjkoinaaDoorPFnExactCharsx13
namespace Go.Proofs.YtmlhnpggjkoinaaDoor.PFnExactChars
open Go.RowKit Go.Proofs.YtmlhnpggjkoinaaDoorW.PrintWords Go.Proofs.YtmlhnpggjkoinaaDoorW.PrintLast Go.Proofs.YtmlhnpggjkoinaaDoorW.PrintMore
attribute [local go_sem] max2_int min2_int max_two min_two max_three min_three max_four min_four   -- for this text's walks alone
set_option linter.unusedVariables false
set_option linter.unusedSimpArgs false

end Go.Proofs.YtmlhnpggjkoinaaDoor.PFnExactChars
