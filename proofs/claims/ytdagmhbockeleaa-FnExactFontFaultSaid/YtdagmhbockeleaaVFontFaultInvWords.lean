/- The words of the print for this law alone: what the law's texts don't reach is left out by a program of this session (wip/tools/trim.py). -/
import Derived.Test.YtdagmhbockeleaaVFontFaultInv
import Derived.Test.YtdagmhbockeleaaVFontFaultFootNe
namespace Go.Proofs.YtdagmhbockeleaaW.PrintWords
open Go.RowKit
end Go.Proofs.YtdagmhbockeleaaW.PrintWords
namespace Go.Proofs.YtdagmhbockeleaaW.PrintLast
section
variable {ops : Array Oper} {a : Act} {o og : Oper} {g : Nat} {t : Tmp} {u : Bool}
end
end Go.Proofs.YtdagmhbockeleaaW.PrintLast
