/- The words of the print for this law alone: what the law's texts don't reach is left out by a program of this session (wip/tools/trim.py). -/
import Derived.Test.YtmlhnpggjkoinaaDoorVCutTab
/-! ### 56. Four, five, six operations that may come up next, in any order -/
namespace Go.Proofs.YtmlhnpggjkoinaaDoorW.PrintLast
section
variable {P : Program} {ops : Array Oper} {Q : Exit → Act → World → Prop} {md : Region.Mode} {S : World → Prop} {ds : List Nat} {T : Bool × List (List Nat × List Nat)}
end
end Go.Proofs.YtmlhnpggjkoinaaDoorW.PrintLast
