/- The words of the print for this law alone: what the law's texts don't reach is left out by a program of this session (wip/tools/trim.py). -/
import Derived.Test.YtmlhnpggjkoinaaDoorVCutInv
import Derived.Test.YtmlhnpggjkoinaaDoorVCutFootNe
namespace Go.Proofs.YtmlhnpggjkoinaaDoorW.PrintWords
open Go.RowKit
end Go.Proofs.YtmlhnpggjkoinaaDoorW.PrintWords
namespace Go.Proofs.YtmlhnpggjkoinaaDoorW.PrintLast
section
variable {ops : Array Oper} {a : Act} {o og : Oper} {g : Nat} {t : Tmp} {u : Bool}
end
end Go.Proofs.YtmlhnpggjkoinaaDoorW.PrintLast
