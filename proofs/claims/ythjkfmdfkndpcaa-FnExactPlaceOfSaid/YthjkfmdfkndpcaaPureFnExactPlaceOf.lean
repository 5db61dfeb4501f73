/- The program's PlaceOf returns what the reference's returns. For every input: the law answers true; each argument reads afterwards as it read before. -/
import Derived.Test.YthjkfmdfkndpcaaPFnExactPlaceOfx
import Derived.Test.YthjkfmdfkndpcaaLib
import Derived.Test.YthjkfmdfkndpcaaCaretsPlaceOf
import Derived.Test.YthjkfmdfkndpcaaInt64SPlaceOf
set_option linter.unusedSimpArgs false
set_option linter.unusedVariables false
namespace Go.Proofs.Ythjkfmdfkndpcaa.Pure
open Go.RowKit Go.Proofs.Ythjkfmdfkndpcaa.PFnExactPlaceOf Go.Proofs.YthjkfmdfkndpcaaW.PrintWords Go.Proofs.YthjkfmdfkndpcaaW.PrintLast Go.Proofs.YthjkfmdfkndpcaaW.PrintMore Go.Proofs.Ythjkfmdfkndpcaa.Lib

theorem search (l pos : List Int) (base x : Int) (ahead : Bool) (T : Nat) (hl : l.length ≤ 1000) (h : ∀ K, T ≤ K → ∀ a, a ≤ l.length → spec_l09Caret.f K l pos base (a : Int) ahead = some (caretAt l pos base ahead a)) :
    ∀ (d j : Nat), j + d = l.length + 1 → ∃ r, ∀ K, T + d < K → spec_PlaceOf.l0 K l base x ahead pos (j : Int) = some r ∧ slices_Index_int64_int64.l0 K (caretsOf l pos base ahead) x ((l.length + 1 : Nat) : Int) (j : Int) = some r := by
  have hc := caretsOf_length l pos base ahead
  intro d
  induction d with
  | zero =>
    intro j hj
    refine ⟨-1, fun K hK => ?_⟩
    obtain ⟨K, rfl⟩ : ∃ m, K = m + 1 := ⟨K - 1, by omega⟩
    rw [spec_PlaceOf.l0, slices_Index_int64_int64.l0, if_neg (by omega), if_neg (by omega)]
    exact ⟨rfl, rfl⟩
  | succ d ih =>
    intro j hj
    have step : ∀ K, T ≤ K → spec_PlaceOf.l0 (K + 1) l base x ahead pos (j : Int) = (if caretAt l pos base ahead j = x then some (j : Int) else spec_PlaceOf.l0 K l base x ahead pos ((j + 1 : Nat) : Int)) ∧ slices_Index_int64_int64.l0 (K + 1) (caretsOf l pos base ahead) x ((l.length + 1 : Nat) : Int) (j : Int) = (if caretAt l pos base ahead j = x then some (j : Int) else slices_Index_int64_int64.l0 K (caretsOf l pos base ahead) x ((l.length + 1 : Nat) : Int) ((j + 1 : Nat) : Int)) := by
      intro K hK
      constructor
      · rw [spec_PlaceOf.l0, if_pos (by omega), h K hK j (by omega), Option.bind_some, pl hl j (by omega)]
      · rw [slices_Index_int64_int64.l0, if_pos (by omega), if_pos (by omega), if_pos (by omega), rd_nat _ j (by omega), caretsOf_get, pl hl j (by omega)]
        by_cases e : x = caretAt l pos base ahead j
        · rw [if_pos e, if_pos e.symm]
        · rw [if_neg e, if_neg (fun z => e z.symm)]
    by_cases c : caretAt l pos base ahead j = x
    · refine ⟨(j : Int), fun K hK => ?_⟩
      obtain ⟨K, rfl⟩ : ∃ m, K = m + 1 := ⟨K - 1, by omega⟩
      rw [(step K (by omega)).1, (step K (by omega)).2, if_pos c, if_pos c]
      exact ⟨rfl, rfl⟩
    · obtain ⟨r, hr⟩ := ih (j + 1) (by omega)
      refine ⟨r, fun K hK => ?_⟩
      obtain ⟨K, rfl⟩ : ∃ m, K = m + 1 := ⟨K - 1, by omega⟩
      rw [(step K (by omega)).1, (step K (by omega)).2, if_neg c, if_neg c]
      exact hr K (by omega)
theorem both (l : List Int) (base x : Int) (ahead : Bool) (hl : l.length ≤ 1048576) : ∃ T r, ∀ K, T ≤ K → spec_PlaceOf.f K l base x ahead = some r ∧ impl_PlaceOf.f K l base x ahead = some r := by
  obtain ⟨b, hb⟩ := right_eq l hl
  have bad : ∀ K, 1 ≤ K → spec_PlaceOf.j0 K l base x ahead true = some (-1) := fun K hK => by
    obtain ⟨K, rfl⟩ : ∃ m, K = m + 1 := ⟨K - 1, by omega⟩
    rw [spec_PlaceOf.j0, if_pos rfl]
  have badi : ∀ K, 1 ≤ K → impl_PlaceOf.j0 K l base x ahead true = some (-1) := fun K hK => by
    obtain ⟨K, rfl⟩ : ∃ m, K = m + 1 := ⟨K - 1, by omega⟩
    rw [impl_PlaceOf.j0, if_pos rfl]
  by_cases c : l.length ≤ 1000
  · obtain ⟨T, pos, h⟩ := carets_eq l c
    by_cases q : b = true ∧ 0 ≤ base ∧ base ≤ 1
    · obtain ⟨rfl, q1, q2⟩ := q
      obtain ⟨r, hr⟩ := search l pos base x ahead T c (fun K hK a ha => ((h K hK).2 base ahead ⟨q1, q2⟩).2 a ha) (l.length + 1) 0 (by omega)
      refine ⟨T + 2 * l.length + 5, r, fun K hK => ?_⟩
      obtain ⟨K, rfl⟩ : ∃ m, K = m + 1 := ⟨K - 1, by omega⟩
      have h1 := h K (by omega)
      have hR := hr K (by omega)
      unfold spec_PlaceOf.f impl_PlaceOf.f
      rw [if_neg (show ¬ ((l.length : Int) > 1000) by omega), (hb _ (by omega)).1, (hb _ (by omega)).2, decide_eq_true (by omega), Option.bind_some, Option.bind_some, if_pos rfl, if_pos (show (true && true) = true from rfl)]
      rw [if_neg (show ¬ base < 0 by omega), if_neg (show ¬ base < 0 by omega), decide_eq_false (show ¬ base > 1 by omega), spec_PlaceOf.j0, impl_PlaceOf.j0, if_neg (by decide), if_neg (by decide), h1.1, (h1.2 base ahead ⟨q1, q2⟩).1, Option.bind_some, Option.bind_some]
      unfold slices_Index_int64_int64.f
      rw [caretsOf_length]
      rw [show ((0 : Nat) : Int) = 0 from rfl] at hR
      rw [hR.1, hR.2]
      exact ⟨rfl, rfl⟩
    · refine ⟨T + l.length + 2, -1, fun K hK => ?_⟩
      unfold spec_PlaceOf.f impl_PlaceOf.f
      rw [if_neg (show ¬ ((l.length : Int) > 1000) by omega), (hb K (by omega)).1, (hb K (by omega)).2, decide_eq_true (by omega), Option.bind_some, Option.bind_some, Bool.and_true, bad K (by omega), badi K (by omega)]
      cases b with
      | false => exact ⟨rfl, rfl⟩
      | true =>
        rw [if_pos rfl, if_pos rfl]
        by_cases q1 : base < 0
        · rw [if_pos q1, if_pos q1]; exact ⟨rfl, rfl⟩
        · rw [if_neg q1, if_neg q1]
          by_cases q2 : base > 1
          · rw [decide_eq_true q2, bad K (by omega), badi K (by omega)]; exact ⟨rfl, rfl⟩
          · exact absurd ⟨rfl, by omega, by omega⟩ q
  · refine ⟨l.length + 2, -1, fun K hK => ?_⟩
    unfold spec_PlaceOf.f impl_PlaceOf.f
    rw [if_pos (show (l.length : Int) > 1000 by omega), (hb K (by omega)).2, decide_eq_false (by omega), Option.bind_some, Bool.and_false, if_neg (by decide), bad K (by omega)]
    exact ⟨rfl, rfl⟩
theorem FnExactPlaceOf : laws_FnExactPlaceOf.Pure := by
  intro l base a ahead _ _ _ _
  unfold laws_FnExactPlaceOf.f
  by_cases c : (l.length : Int) > 1048576
  · exact ⟨0, by rw [if_pos c]⟩
  · obtain ⟨T, r, h⟩ := both l base a ahead (by omega)
    refine ⟨T + 1048600, ?_⟩
    generalize hk : T + 1048600 = k
    have h1 := (h k (by omega)).1
    have h2 := (h k (by omega)).2
    have tl := toInt64S_eq l k (by omega) (by omega)
    rw [if_neg c, tl, Option.bind_some, h1, Option.bind_some, Option.bind_some, h2, Option.bind_some, if_pos rfl, Option.bind_some, eqInt64S_eq l k (by omega) (by omega), Option.bind_some, if_pos rfl]

end Go.Proofs.Ythjkfmdfkndpcaa.Pure
