/- Small facts on a text's bytes. No program stands here. -/
import Derived.Test.YtdagmhbockeleaaLib
namespace Go.Proofs.Ytdagmhbockeleaa.Lib
open Go.RowKit Go.Proofs.YtdagmhbockeleaaW.PrintWords Go.Proofs.YtdagmhbockeleaaW.PrintLast Go.Proofs.YtdagmhbockeleaaW.PrintMore

theorem bt_lt (s : ByteArray) (i : Int) : 0 ≤ bt s i ∧ bt s i < 256 := by have := bt_range s i; omega

end Go.Proofs.Ytdagmhbockeleaa.Lib
