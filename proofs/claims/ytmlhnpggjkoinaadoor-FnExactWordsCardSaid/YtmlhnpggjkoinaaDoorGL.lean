/- The tables of unicode/utf8 as the row lists them, and what keeps them. -/
import Derived.Test.YtmlhnpggjkoinaaDoorShelfP
import Derived.Lib.LaidU8
import Derived.LaidMore
import Derived.Below
set_option linter.unusedSimpArgs false
set_option linter.unusedVariables false
namespace Go.Proofs.YtmlhnpggjkoinaaDoor
open Go.Shelf Go.Lib Go.RowKit

/-- utf8's two tables lie as their initialisers lay them. -/
def GL (w : World) : Prop := Lib.Utf8Tabs (Tryd.lays197_ren.g 3) (Tryd.lays197_ren.g 4) w
theorem GL_below {w W : World} (h : GL w) (hb : Below w.heap.size w W) : GL W := by
  obtain ⟨h1, h2⟩ := h
  refine ⟨fun c hc => ?_, fun i hi => ⟨?_, ?_⟩⟩
  · have := h1 c hc
    exact (hb.cell (World.block_lt_of_cell? w _ this)).trans this
  · have := (h2 i hi).1
    exact (hb.cell (World.block_lt_of_cell? w _ this)).trans this
  · have := (h2 i hi).2
    exact (hb.cell (World.block_lt_of_cell? w _ this)).trans this
theorem GL_drew {w : World} (h : GL w) : GL w.drew := h
theorem GL_drewN {w : World} (h : GL w) (n : Nat) : GL (w.drewN n) := h
end Go.Proofs.YtmlhnpggjkoinaaDoor
