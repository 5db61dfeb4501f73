-- Written by a program of this session (wip/tools/myprint.py) that runs the kit's print with hooks of its own. Lean checks it.
import Derived.Test.YtmlhnpggjkoinaaDoorPFnExactFewestWordsx0
import Derived.Test.YtmlhnpggjkoinaaDoorPFnExactFewestWordsx1
import Derived.Test.YtmlhnpggjkoinaaDoorPFnExactFewestWordsx2
import Derived.Test.YtmlhnpggjkoinaaDoorPFnExactFewestWordsx3
import Derived.Test.YtmlhnpggjkoinaaDoorPFnExactFewestWordsx4
import Derived.Test.YtmlhnpggjkoinaaDoorPFnExactFewestWordsx5
import Derived.Test.YtmlhnpggjkoinaaDoorPFnExactFewestWordsx6
import Derived.Test.YtmlhnpggjkoinaaDoorPFnExactFewestWordsx7
import Derived.Test.YtmlhnpggjkoinaaDoorPFnExactFewestWordsx8
import Derived.Test.YtmlhnpggjkoinaaDoorPFnExactFewestWordsx9
import Derived.Test.YtmlhnpggjkoinaaDoorPFnExactFewestWordsx10
import Derived.Test.YtmlhnpggjkoinaaDoorPFnExactFewestWordsx11
namespace Go.Proofs.YtmlhnpggjkoinaaDoor.PFnExactFewestWords
open Go.RowKit Go.Proofs.YtmlhnpggjkoinaaDoorW.PrintWords Go.Proofs.YtmlhnpggjkoinaaDoorW.PrintLast Go.Proofs.YtmlhnpggjkoinaaDoorW.PrintMore
attribute [local go_sem] max2_int min2_int max_two min_two max_three min_three max_four min_four   -- for this text's walks alone
set_option linter.unusedVariables false
set_option linter.unusedSimpArgs false

end Go.Proofs.YtmlhnpggjkoinaaDoor.PFnExactFewestWords
