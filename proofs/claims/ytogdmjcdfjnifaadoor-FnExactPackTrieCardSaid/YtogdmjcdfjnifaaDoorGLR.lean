/- From the row's listed variables to the walks' fact on strconv's table of powers of ten. -/
import Derived.Test.YtogdmjcdfjnifaaDoorRows
import Derived.Test.YtogdmjcdfjnifaaDoorGL
import Derived.Lib.LaidU8
set_option linter.unusedSimpArgs false
set_option linter.unusedVariables false
namespace Go.Proofs.YtogdmjcdfjnifaaDoor
open Go.Lib Go.RowKit

theorem pow10_data : (Rows.laid_internal_strconv_uint64pow10 : DataW Unit) = tabData .u64 pow10Tab := by kernel_rfl
theorem gPow : Tryd.prog.globalNamed "internal/strconv.uint64pow10" = some 0 := by kernel_rfl
theorem GL_of_reads {w : World} (_h1 : VarReads Tryd.prog w "math/bits.deBruijn32tab" Rows.laid_math_bits_deBruijn32tab) (_h2 : VarReads Tryd.prog w "math/bits.deBruijn64tab" Rows.laid_math_bits_deBruijn64tab) (h : VarReads Tryd.prog w "internal/strconv.uint64pow10" Rows.laid_internal_strconv_uint64pow10) : GL w := by
  obtain ⟨g, t, cs, fuel, p, hg, ht, hv, hd⟩ := h
  obtain rfl := Option.some.inj (gPow.symm.trans hg)
  have htt : (Tryd.prog.globals[0]?).map (·.type) = some 64 := by kernel_rfl
  obtain rfl := Option.some.inj (htt.symm.trans ht)
  rw [pow10_data] at hd
  unfold GL Lib.TabIs
  rw [hv, ← cells_of_tab Tryd.underlying64 Tryd.underlying56 (by kernel_rfl) (by kernel_rfl) hd]
end Go.Proofs.YtogdmjcdfjnifaaDoor
