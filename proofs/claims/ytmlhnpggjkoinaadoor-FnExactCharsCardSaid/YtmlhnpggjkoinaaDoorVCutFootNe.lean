/- The words of the print for this law alone: what the law's texts don't reach is left out by a program of this session (wip/tools/trim.py). -/
import Derived.Test.YtmlhnpggjkoinaaDoorVCutN
/-! ### 52. A row that stays read whatever happens to a block (a set of blocks) doesn't lie there -/
namespace Go.Proofs.YtmlhnpggjkoinaaDoorW.PrintWords
open Go.RowKit
namespace Kd
section
variable {α : Type} {d : Kd α} {W : World} {g n : Nat} {S ok : Nat → Prop} {A : Option Addr} {ad : Addr} {xs : List α}
end
end Kd
end Go.Proofs.YtmlhnpggjkoinaaDoorW.PrintWords
