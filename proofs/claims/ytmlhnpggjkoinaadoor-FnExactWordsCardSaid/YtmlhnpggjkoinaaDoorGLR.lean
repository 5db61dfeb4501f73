/- From the row's listed variables to the walks' fact on utf8's tables. -/
import Derived.Test.YtmlhnpggjkoinaaDoorRows
import Derived.Test.YtmlhnpggjkoinaaDoorGL
set_option linter.unusedSimpArgs false
set_option linter.unusedVariables false
namespace Go.Proofs.YtmlhnpggjkoinaaDoor
open Go.Shelf Go.Lib

theorem first_data : Rows.laid_unicode_utf8_first = firstData := by kernel_rfl
theorem accept_data : (Rows.laid_unicode_utf8_acceptRanges : DataW Unit) = acceptData := by kernel_rfl
theorem GL_of_reads {w : World} (h3 : VarReads Tryd.prog w "unicode/utf8.first" Rows.laid_unicode_utf8_first) (h4 : VarReads Tryd.prog w "unicode/utf8.acceptRanges" Rows.laid_unicode_utf8_acceptRanges) : GL w :=
  utf8Tabs_of_reads (ρ := Tryd.lays260_ren) Tryd.lays260 { n3 := by kernel_rfl, n4 := by kernel_rfl, y3 := by kernel_rfl, y4 := by kernel_rfl, c5 := by kernel_rfl, c119 := by kernel_rfl, c138 := by kernel_rfl } (first_data ▸ h3) (accept_data ▸ h4)
end Go.Proofs.YtmlhnpggjkoinaaDoor
