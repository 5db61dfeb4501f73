/- The program's table of digits' rows as the row lists it, and what keeps it. -/
import Derived.Test.YtpibhoaegbeonaaDoorWMore
import Derived.Lib.LaidU8
import Derived.LaidMore
import Derived.Below
set_option linter.unusedSimpArgs false
set_option linter.unusedVariables false
namespace Go.Proofs.YtpibhoaegbeonaaDoor
open Go.RowKit Go.Proofs.YtpibhoaegbeonaaDoorW.PrintWords Go.Proofs.YtpibhoaegbeonaaDoorW.PrintLast Go.Proofs.YtpibhoaegbeonaaDoorW.PrintMore

def digRows : List Int := [48, 592, 848, 1104, 1360, 1616, 10016]
/-- The variable holds a row that reads so. -/
def GL (w : World) : Prop := ∃ (A : Option Addr) (c : Nat), w.cell? ⟨1, 0, none⟩ = some (.slice A digRows.length c) ∧ digRows.length ≤ c ∧ Kd.C (Kd.int .i64) w A digRows.length digRows
theorem GL_below {w W : World} (h : GL w) (hb : Below w.heap.size w W) : GL W := by
  obtain ⟨A, c, h1, h2, h3⟩ := h
  exact ⟨A, c, (hb.cell (World.block_lt_of_cell? w _ h1)).trans h1, h2, Kd.C_below h3 hb⟩
theorem GL_drew {w : World} (h : GL w) : GL w.drew := by
  obtain ⟨A, c, h1, h2, h3⟩ := h
  exact ⟨A, c, h1, h2, Kd.C_drew h3⟩
theorem GL_drewN {w : World} (h : GL w) (n : Nat) : GL (w.drewN n) := by
  obtain ⟨A, c, h1, h2, h3⟩ := h
  exact ⟨A, c, h1, h2, Kd.C_drewN h3 n⟩
end Go.Proofs.YtpibhoaegbeonaaDoor
