-- Written by a program of this session (wip/tools/myprint.py) that runs the kit's print with hooks of its own. Lean checks it.
import Derived.Test.YtmlhnpggjkoinaaDoorPFnExactFormsOfx0
import Derived.Test.YtmlhnpggjkoinaaDoorPFnExactFormsOfx1
import Derived.Test.YtmlhnpggjkoinaaDoorPFnExactFormsOfx2
import Derived.Test.YtmlhnpggjkoinaaDoorPFnExactFormsOfx3
import Derived.Test.YtmlhnpggjkoinaaDoorPFnExactFormsOfx4
import Derived.Test.YtmlhnpggjkoinaaDoorPFnExactFormsOfx5
import Derived.Test.YtmlhnpggjkoinaaDoorPFnExactFormsOfx6
import Derived.Test.YtmlhnpggjkoinaaDoorPFnExactFormsOfx7
namespace Go.Proofs.YtmlhnpggjkoinaaDoor.PFnExactFormsOf
open Go.RowKit Go.Proofs.YtmlhnpggjkoinaaDoorW.PrintWords Go.Proofs.YtmlhnpggjkoinaaDoorW.PrintLast Go.Proofs.YtmlhnpggjkoinaaDoorW.PrintMore
attribute [local go_sem] max2_int min2_int max_two min_two max_three min_three max_four min_four   -- for this text's walks alone
set_option linter.unusedVariables false
set_option linter.unusedSimpArgs false

end Go.Proofs.YtmlhnpggjkoinaaDoor.PFnExactFormsOf
