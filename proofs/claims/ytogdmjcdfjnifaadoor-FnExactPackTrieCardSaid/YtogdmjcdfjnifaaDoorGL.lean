/- strconv's table of powers of ten as the row lists it, and what keeps it. -/
import Derived.Test.YtogdmjcdfjnifaaDoorShelfPk
import Derived.Lib.LaidTab
import Derived.Lib.AppendIntMem
import Derived.LaidMore
import Derived.Below
set_option linter.unusedSimpArgs false
set_option linter.unusedVariables false
namespace Go.Proofs.YtogdmjcdfjnifaaDoor
open Go.Shelf Go.Lib Go.RowKit

/-- The table lies as its initialiser lays it. -/
def GL (w : World) : Prop := Lib.TabIs Tryd.prog w "internal/strconv.uint64pow10" .u64 Lib.pow10Tab
theorem GL_drew {w : World} (h : GL w) : GL w.drew := h
theorem GL_drewN {w : World} (h : GL w) (n : Nat) : GL (w.drewN n) := h
theorem GL_below {w W : World} (h : GL w) (hb : Below w.heap.size w W) : GL W := Lib.tabBelow_of_tabIs h W hb
end Go.Proofs.YtogdmjcdfjnifaaDoor
