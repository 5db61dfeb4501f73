/- The program's PointsOf returns what the reference's returns. For every input: the law answers true; each argument reads afterwards as it read before. -/
import Derived.Test.YtdagmhbockeleaaDoorPFnExactPointsOfx
import Derived.Test.YtdagmhbockeleaaDoorLib
import Derived.Test.YtdagmhbockeleaaDoorPointsPointsOf
import Derived.Test.YtdagmhbockeleaaDoorOutInt64SPointsOf
set_option linter.unusedSimpArgs false
set_option linter.unusedVariables false
namespace Go.Proofs.YtdagmhbockeleaaDoor.Pure
open Go.RowKit Go.Proofs.YtdagmhbockeleaaDoor.PFnExactPointsOf Go.Proofs.YtdagmhbockeleaaDoorW.PrintWords Go.Proofs.YtdagmhbockeleaaDoorW.PrintLast Go.Proofs.YtdagmhbockeleaaDoor.Lib

def pointsOf (s : ByteArray) : List Int := if (s.size : Int) > 65536 then [] else pts s
theorem pointsOf_len (s : ByteArray) (h : s.size ≤ 1048576) : (pointsOf s).length ≤ 1048576 := by
  unfold pointsOf
  split
  · simp
  · have := pts_len s; omega
theorem spec_eq (s : ByteArray) (k : Nat) (hk : 1048600 ≤ k) (hs : s.size ≤ 1048576) : spec_PointsOf.f k s = some (pointsOf s) := by
  unfold spec_PointsOf.f pointsOf
  split
  · rfl
  · rw [specPoints_eq s k (by omega) hs]; rfl
theorem impl_eq (s : ByteArray) (k : Nat) (hk : 1048600 ≤ k) (hs : s.size ≤ 1048576) : impl_PointsOf.f k s = some (pointsOf s) := by
  unfold impl_PointsOf.f impl_long.f pointsOf
  simp only [Option.bind_some, decide_eq_true_eq]
  split
  · rfl
  · rw [points_eq s k (by omega) hs]; rfl
theorem law (s : ByteArray) (k : Nat) (hk : 1048600 ≤ k) : laws_FnExactPointsOf.f k s = some true := by
  unfold laws_FnExactPointsOf.f
  by_cases c : (s.size : Int) > 1048576
  · rw [if_pos c]
  · have hs : s.size ≤ 1048576 := by omega
    have hl := pointsOf_len s hs
    rw [if_neg c, spec_eq s k hk hs]
    simp only [Option.bind_some]
    rw [impl_eq s k hk hs]
    simp only [Option.bind_some]
    generalize pointsOf s = l at hl
    rw [eqInt64S_eq l k (by omega) (by omega)]
    simp only [Option.bind_some, if_true]
    rw [markInt64S_eq l k (by omega) (by omega)]
    simp only [Option.bind_some]
    rw [heldInt64S_eq l k (by omega) (by omega)]
    simp only [Option.bind_some, if_true]
    rw [if_neg (by omega), if_neg (by omega)]
theorem FnExactPointsOf : laws_FnExactPointsOf.Pure := fun s _ => ⟨1048600, law s 1048600 (Nat.le_refl _)⟩

end Go.Proofs.YtdagmhbockeleaaDoor.Pure
