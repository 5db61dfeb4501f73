-- Written by a program of this session (wip/tools/myprint.py) that runs the kit's print with hooks of its own. Lean checks it.
import Derived.Test.YtdagmhbockeleaaPFnExactFontFaultx0
import Derived.Test.YtdagmhbockeleaaPFnExactFontFaultx1
import Derived.Test.YtdagmhbockeleaaPFnExactFontFaultx2
import Derived.Test.YtdagmhbockeleaaPFnExactFontFaultx3
import Derived.Test.YtdagmhbockeleaaPFnExactFontFaultx4
import Derived.Test.YtdagmhbockeleaaPFnExactFontFaultx5
import Derived.Test.YtdagmhbockeleaaPFnExactFontFaultx6
import Derived.Test.YtdagmhbockeleaaPFnExactFontFaultx7
import Derived.Test.YtdagmhbockeleaaPFnExactFontFaultx8
import Derived.Test.YtdagmhbockeleaaPFnExactFontFaultx9
import Derived.Test.YtdagmhbockeleaaPFnExactFontFaultx10
namespace Go.Proofs.Ytdagmhbockeleaa.PFnExactFontFault
open Go.RowKit Go.Proofs.YtdagmhbockeleaaW.PrintWords Go.Proofs.YtdagmhbockeleaaW.PrintLast Go.Proofs.YtdagmhbockeleaaW.PrintMore
attribute [local go_sem] max2_int min2_int max_two min_two max_three min_three max_four min_four   -- for this text's walks alone
set_option linter.unusedVariables false
set_option linter.unusedSimpArgs false

end Go.Proofs.Ytdagmhbockeleaa.PFnExactFontFault
