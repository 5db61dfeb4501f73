/- The program's OrderOf returns what the reference's returns. For every input: the law answers true; each argument reads afterwards as it read before. -/
import Derived.Test.YthjkfmdfkndpcaaPFnExactOrderOfx
import Derived.Test.YthjkfmdfkndpcaaLib
import Derived.Test.YthjkfmdfkndpcaaOrderOrderOf
import Derived.Test.YthjkfmdfkndpcaaToInt64SOrderOf
import Derived.Test.YthjkfmdfkndpcaaOutInt64SOrderOf
set_option linter.unusedSimpArgs false
set_option linter.unusedVariables false
namespace Go.Proofs.Ythjkfmdfkndpcaa.Pure
open Go.RowKit Go.Proofs.Ythjkfmdfkndpcaa.PFnExactOrderOf Go.Proofs.YthjkfmdfkndpcaaW.PrintWords Go.Proofs.YthjkfmdfkndpcaaW.PrintLast Go.Proofs.YthjkfmdfkndpcaaW.PrintMore Go.Proofs.Ythjkfmdfkndpcaa.Lib

theorem both (l : List Int) (hl : l.length ≤ 1048576) : ∃ T o, o.length ≤ 1000 ∧ ∀ K, T ≤ K → spec_OrderOf.f K l = some o ∧ impl_OrderOf.f K l = some o := by
  obtain ⟨b, hb⟩ := right_eq l hl
  by_cases c : l.length ≤ 1000
  · obtain ⟨T, o, g, h⟩ := order_eq l c
    refine ⟨T + l.length + 1, if b = true then o else [], ?_, fun K hK => ?_⟩
    · split
      · have := g.1; omega
      · simp
    · unfold spec_OrderOf.f impl_OrderOf.f
      rw [if_neg (show ¬ ((l.length : Int) > 1000) by omega), (hb K (by omega)).1, (hb K (by omega)).2, decide_eq_true (by omega), Option.bind_some, Option.bind_some, Bool.and_true]
      cases b with
      | true => rw [if_pos rfl, if_pos rfl, (h K (by omega)).1, (h K (by omega)).2]; exact ⟨rfl, rfl⟩
      | false => exact ⟨rfl, rfl⟩
  · refine ⟨l.length + 1, [], by simp, fun K hK => ?_⟩
    unfold spec_OrderOf.f impl_OrderOf.f
    rw [if_pos (by omega), (hb K (by omega)).2, decide_eq_false (by omega), Option.bind_some, Bool.and_false]
    exact ⟨rfl, rfl⟩
theorem FnExactOrderOf : laws_FnExactOrderOf.Pure := by
  intro l _ _
  unfold laws_FnExactOrderOf.f
  by_cases c : (l.length : Int) > 1048576
  · exact ⟨0, by rw [if_pos c]⟩
  · obtain ⟨T, o, ho, h⟩ := both l (by omega)
    refine ⟨T + 1048600, ?_⟩
    generalize hk : T + 1048600 = k
    have h1 := (h k (by omega)).1
    have h2 := (h k (by omega)).2
    have tl := toInt64S_eq l k (by omega) (by omega)
    rw [if_neg c, tl, Option.bind_some, h1, Option.bind_some, Option.bind_some, h2, Option.bind_some, eqInt64S_eq o k (by omega) (by omega), Option.bind_some, if_pos rfl, Option.bind_some, eqInt64S_eq l k (by omega) (by omega), Option.bind_some, if_pos rfl, markInt64S_eq l k (by omega) (by omega), Option.bind_some, if_neg (by show ¬ ((l.length : Int) + 1 < 0); omega), Option.bind_some]
    obtain ⟨k, rfl⟩ : ∃ m, k = m + 1 := ⟨k - 1, by omega⟩
    rw [laws_FnExactOrderOf.j0, if_neg (by decide)]
    have h2' := (h k (by omega)).2
    rw [markInt64S_eq o k (by omega) (by omega), Option.bind_some]
    show ((laws_heldInt64S.f k (marked o o.length) 1).bind _) = _
    rw [heldInt64S_eq o k (by omega) (by omega), Option.bind_some, if_neg (by omega), if_pos rfl, toInt64S_eq l k (by omega) (by omega), Option.bind_some, h2', Option.bind_some, eqInt64S_eq o k (by omega) (by omega), Option.bind_some, if_pos rfl]
    rw [Option.bind_some, if_neg (by omega), if_pos rfl]

end Go.Proofs.Ythjkfmdfkndpcaa.Pure
