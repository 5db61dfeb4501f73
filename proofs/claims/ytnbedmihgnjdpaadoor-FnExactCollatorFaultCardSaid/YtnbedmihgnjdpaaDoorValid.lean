/- A text is of points alone where its points, written, are the text again. Plain Lean. -/
import Derived.Test.YtnbedmihgnjdpaaDoorDec
import Derived.Lib.MapLaws
import Derived.Lib.ValidLaws
import Derived.Lib.Strings
set_option linter.unusedSimpArgs false
set_option linter.unusedVariables false
namespace Go.Proofs.YtnbedmihgnjdpaaDoor.Lib
open Go.RowKit Go.Proofs.YtnbedmihgnjdpaaDoorW.PrintWords Go.Proofs.YtnbedmihgnjdpaaDoorW.PrintLast Go.Proofs.YtnbedmihgnjdpaaDoorW.PrintMore

theorem fixPt_pt (p : Int) (h : isPt p = true) : fixPt p = p := by unfold fixPt; rw [if_pos h]
theorem toList_inj {s t : ByteArray} (h : s.toList = t.toList) : s = t := by
  rw [Go.Lib.toList_data, Go.Lib.toList_data] at h
  apply bytesOf_inj
  unfold bytesOf
  rw [h]
end Go.Proofs.YtnbedmihgnjdpaaDoor.Lib
