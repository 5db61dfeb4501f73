/- The words of the print for this law alone: what the law's texts don't reach is left out by a program of this session (wip/tools/trim.py). -/
import Derived.Test.YtmlhnpggjkoinaaDoorVCutWords
/-! ### 58. A guarded operation whose guard is known to want it: the same goal without the guard -/
namespace Go.Proofs.YtmlhnpggjkoinaaDoorW.PrintWords
open Go.RowKit
section
variable {P : Program} {ops : Array Oper} {rest : List Oper} {o : Oper} {a : Act} {Q : Exit → Act → World → Prop} {W : World}
end
end Go.Proofs.YtmlhnpggjkoinaaDoorW.PrintWords
