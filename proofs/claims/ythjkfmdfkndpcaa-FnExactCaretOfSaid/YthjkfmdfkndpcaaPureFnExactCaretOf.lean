/- The program's CaretOf returns what the reference's returns. For every input: the law answers true; each argument reads afterwards as it read before. -/
import Derived.Test.YthjkfmdfkndpcaaPFnExactCaretOfx
import Derived.Test.YthjkfmdfkndpcaaLib
import Derived.Test.YthjkfmdfkndpcaaCaretsCaretOf
import Derived.Test.YthjkfmdfkndpcaaInt64SCaretOf
set_option linter.unusedSimpArgs false
set_option linter.unusedVariables false
namespace Go.Proofs.Ythjkfmdfkndpcaa.Pure
open Go.RowKit Go.Proofs.Ythjkfmdfkndpcaa.PFnExactCaretOf Go.Proofs.YthjkfmdfkndpcaaW.PrintWords Go.Proofs.YthjkfmdfkndpcaaW.PrintLast Go.Proofs.YthjkfmdfkndpcaaW.PrintMore Go.Proofs.Ythjkfmdfkndpcaa.Lib

theorem both (l : List Int) (base a : Int) (ahead : Bool) (hl : l.length ≤ 1048576) : ∃ T r, ∀ K, T ≤ K → spec_CaretOf.f K l base a ahead = some r ∧ impl_CaretOf.f K l base a ahead = some r := by
  obtain ⟨b, hb⟩ := right_eq l hl
  have bad : ∀ K, spec_CaretOf.j0 (K + 1) l base a ahead true = some (-1) := fun K => by rw [spec_CaretOf.j0, if_pos rfl]
  by_cases c : l.length ≤ 1000
  · obtain ⟨T, pos, h⟩ := carets_eq l c
    by_cases q : b = true ∧ 0 ≤ base ∧ base ≤ 1 ∧ 0 ≤ a ∧ a ≤ (l.length : Int)
    · obtain ⟨rfl, q1, q2, q3, q4⟩ := q
      refine ⟨T + l.length + 2, caretAt l pos base ahead a.toNat, fun K hK => ?_⟩
      have h1 := (h K (by omega)).2 base ahead ⟨q1, q2⟩
      have h2 := h (K - 1) (by omega)
      have h3 := (h2.2 base ahead ⟨q1, q2⟩).2 a.toNat (by omega)
      rw [Int.toNat_of_nonneg q3] at h3
      have hc := caretsOf_length l pos base ahead
      unfold spec_CaretOf.f impl_CaretOf.f
      rw [if_neg (show ¬ ((l.length : Int) > 1000) by omega), (hb K (by omega)).1, (hb K (by omega)).2, decide_eq_true (by omega), Option.bind_some, Option.bind_some, if_pos rfl, if_pos (show (true && true) = true from rfl)]
      rw [if_neg (show ¬ base < 0 by omega), if_neg (show ¬ base > 1 by omega), if_neg (show ¬ a < 0 by omega), decide_eq_false (show ¬ a > (l.length : Int) by omega)]
      rw [if_neg (show ¬ base < 0 by omega), if_neg (show ¬ base > 1 by omega), if_neg (show ¬ a < 0 by omega), if_neg (show ¬ a > (l.length : Int) by omega)]
      rw [h1.1, Option.bind_some, if_pos q3, if_pos (by omega)]
      constructor
      · rw [show K = (K - 1) + 1 by omega, spec_CaretOf.j0, if_neg (by decide), h2.1, Option.bind_some, h3, Option.bind_some]
      · have e := rd_nat (caretsOf l pos base ahead) a.toNat (by omega)
        rw [Int.toNat_of_nonneg q3] at e
        rw [e, caretsOf_get]
    · refine ⟨T + l.length + 2, -1, fun K hK => ?_⟩
      unfold spec_CaretOf.f impl_CaretOf.f
      have bd := bad (K - 1)
      rw [show K - 1 + 1 = K by omega] at bd
      rw [if_neg (show ¬ ((l.length : Int) > 1000) by omega), (hb K (by omega)).1, (hb K (by omega)).2, decide_eq_true (by omega), Option.bind_some, Option.bind_some, Bool.and_true, bd]
      cases b with
      | false => exact ⟨rfl, rfl⟩
      | true =>
        rw [if_pos rfl, if_pos rfl]
        by_cases q1 : base < 0
        · rw [if_pos q1, if_pos q1]; exact ⟨rfl, rfl⟩
        · rw [if_neg q1, if_neg q1]
          by_cases q2 : base > 1
          · rw [if_pos q2, if_pos q2]; exact ⟨rfl, rfl⟩
          · rw [if_neg q2, if_neg q2]
            by_cases q3 : a < 0
            · rw [if_pos q3, if_pos q3]; exact ⟨rfl, rfl⟩
            · rw [if_neg q3, if_neg q3]
              by_cases q4 : a > (l.length : Int)
              · rw [if_pos q4, decide_eq_true q4, bd]; exact ⟨rfl, rfl⟩
              · exact absurd ⟨rfl, by omega, by omega, by omega, by omega⟩ q
  · refine ⟨l.length + 2, -1, fun K hK => ?_⟩
    have bd := bad (K - 1)
    rw [show K - 1 + 1 = K by omega] at bd
    unfold spec_CaretOf.f impl_CaretOf.f
    rw [if_pos (show (l.length : Int) > 1000 by omega), (hb K (by omega)).2, decide_eq_false (by omega), Option.bind_some, Bool.and_false, if_neg (by decide), bd]
    exact ⟨rfl, rfl⟩
theorem FnExactCaretOf : laws_FnExactCaretOf.Pure := by
  intro l base a ahead _ _ _ _
  unfold laws_FnExactCaretOf.f
  by_cases c : (l.length : Int) > 1048576
  · exact ⟨0, by rw [if_pos c]⟩
  · obtain ⟨T, r, h⟩ := both l base a ahead (by omega)
    refine ⟨T + 1048600, ?_⟩
    generalize hk : T + 1048600 = k
    have h1 := (h k (by omega)).1
    have h2 := (h k (by omega)).2
    have tl := toInt64S_eq l k (by omega) (by omega)
    rw [if_neg c, tl, Option.bind_some, h1, Option.bind_some, Option.bind_some, h2, Option.bind_some, if_pos rfl, Option.bind_some, eqInt64S_eq l k (by omega) (by omega), Option.bind_some, if_pos rfl]

end Go.Proofs.Ythjkfmdfkndpcaa.Pure
