/- The words of the print for this law alone: what the law's texts don't reach is left out by a program of this session (wip/tools/trim.py). -/
import Derived.SizedLaws
import Derived.ChangeSlices
namespace Go.Proofs.YtmlhnpggjkoinaaDoorW.PrintWords
open Go.ChangeShapes Go.WideShapes
end Go.Proofs.YtmlhnpggjkoinaaDoorW.PrintWords
