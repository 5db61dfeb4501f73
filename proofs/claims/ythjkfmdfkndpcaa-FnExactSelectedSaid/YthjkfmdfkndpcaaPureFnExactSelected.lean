/- The program's Selected returns what the reference's returns. For every input: the law answers true; each argument reads afterwards as it read before. -/
import Derived.Test.YthjkfmdfkndpcaaPFnExactSelectedx
import Derived.Test.YthjkfmdfkndpcaaLib
import Derived.Test.YthjkfmdfkndpcaaOrderSelected
import Derived.Test.YthjkfmdfkndpcaaToInt64SSelected
import Derived.Test.YthjkfmdfkndpcaaEqMarkSelected
import Derived.Test.YthjkfmdfkndpcaaOutStretchSSelected
set_option linter.unusedSimpArgs false
set_option linter.unusedVariables false
namespace Go.Proofs.Ythjkfmdfkndpcaa.Pure
open Go.RowKit Go.Proofs.Ythjkfmdfkndpcaa.PFnExactSelected Go.Proofs.YthjkfmdfkndpcaaW.PrintWords Go.Proofs.YthjkfmdfkndpcaaW.PrintLast Go.Proofs.YthjkfmdfkndpcaaW.PrintMore Go.Proofs.Ythjkfmdfkndpcaa.Lib

theorem same (a b : Int) (o : List Int) : ∀ (k : Nat), (∀ x j, impl_Selected.l0 k a b x o (o.length : Int) j = spec_Selected.l0 k a b x o j) ∧ ∀ x j c, impl_Selected.j2 k a b x j o (o.length : Int) j c = spec_Selected.j2 k a b x o j c := by
  intro k
  induction k with
  | zero => exact ⟨fun _ _ => rfl, fun _ _ _ => rfl⟩
  | succ k ih =>
    refine ⟨fun x j => ?_, fun x j c => ?_⟩
    · rw [impl_Selected.l0, spec_Selected.l0]
      by_cases h : j < (o.length : Int)
      · rw [if_pos h, if_pos h, if_pos h]
        simp only [ih.2]
      · rw [if_neg h, if_neg h]
    · rw [impl_Selected.j2, spec_Selected.j2]
      simp only [ih.1]
theorem step (a b : Int) (o : List Int) (ho : o.length ≤ 1000) (x : List S38) (j : Nat) (hj : j < o.length) (hx : x.length ≤ j) : ∃ x', x'.length ≤ j + 1 ∧ ∀ K, spec_Selected.l0 (K + 2) a b x o (j : Int) = spec_Selected.l0 K a b x' o ((j + 1 : Nat) : Int) := by
  have w1 : wrap64 ((j : Int) + 1) = ((j + 1 : Nat) : Int) := pl ho j (by omega)
  have e : ∃ c, ∀ K, spec_Selected.l0 (K + 2) a b x o (j : Int) = spec_Selected.j2 (K + 1) a b x o (j : Int) c := by
    by_cases p : rd o (j : Int) < a
    · exact ⟨true, fun K => by rw [show K + 2 = (K + 1) + 1 from rfl, spec_Selected.l0, if_pos (by omega), if_pos (by omega), if_pos p]⟩
    · exact ⟨_, fun K => by rw [show K + 2 = (K + 1) + 1 from rfl, spec_Selected.l0, if_pos (by omega), if_pos (by omega), if_neg p]⟩
  obtain ⟨c, hc⟩ := e
  cases c with
  | true => exact ⟨x, by omega, fun K => by rw [hc, spec_Selected.j2, if_pos rfl, w1]⟩
  | false =>
    by_cases q : (x.length : Int) > 0
    · have w2 : wrap64 ((x.length : Int) - 1) = (x.length : Int) - 1 := w64 (by omega) (by omega)
      by_cases r : (rd_T38 x ((x.length : Int) - 1)).f1 = (j : Int)
      · exact ⟨x.set ((x.length : Int) - 1).toNat (⟨(rd_T38 x ((x.length : Int) - 1)).f0, ((j + 1 : Nat) : Int)⟩ : S38), by rw [List.length_set]; omega, fun K => by rw [hc, spec_Selected.j2, if_neg (by decide), if_pos q, w2, if_pos (by omega), if_pos (by omega), if_pos r, w1]⟩
      · exact ⟨x ++ [(⟨(j : Int), ((j + 1 : Nat) : Int)⟩ : S38)], by rw [List.length_append]; simp; omega, fun K => by rw [hc, spec_Selected.j2, if_neg (by decide), if_pos q, w2, if_pos (by omega), if_pos (by omega), if_neg r, if_pos (by omega), w1]⟩
    · exact ⟨x ++ [(⟨(j : Int), ((j + 1 : Nat) : Int)⟩ : S38)], by rw [List.length_append]; simp; omega, fun K => by rw [hc, spec_Selected.j2, if_neg (by decide), if_neg q, if_pos (by omega), w1]⟩
theorem run_all (a b : Int) (o : List Int) (ho : o.length ≤ 1000) : ∀ (d j : Nat) (x : List S38), j + d = o.length → x.length ≤ j → ∃ r, r.length ≤ 1000 ∧ ∀ K, 2 * d < K → spec_Selected.l0 K a b x o (j : Int) = some r := by
  intro d
  induction d with
  | zero =>
    intro j x hj hx
    refine ⟨x, by omega, fun K hK => ?_⟩
    obtain ⟨K, rfl⟩ : ∃ m, K = m + 1 := ⟨K - 1, by omega⟩
    rw [spec_Selected.l0, if_neg (by omega)]
  | succ d ih =>
    intro j x hj hx
    obtain ⟨x', h1, h2⟩ := step a b o ho x j (by omega) hx
    obtain ⟨r, h3, h4⟩ := ih (j + 1) x' (by omega) h1
    refine ⟨r, h3, fun K hK => ?_⟩
    obtain ⟨K, rfl⟩ : ∃ m, K = m + 2 := ⟨K - 2, by omega⟩
    rw [h2, h4 K (by omega)]
theorem both (l : List Int) (a b : Int) (hl : l.length ≤ 1048576) : ∃ T r, r.length ≤ 1000 ∧ ∀ K, T ≤ K → spec_Selected.f K l a b = some r ∧ impl_Selected.f K l a b = some r := by
  obtain ⟨g, hb⟩ := right_eq l hl
  have bad : ∀ K, 1 ≤ K → spec_Selected.j0 K l a b [] true = some [] := fun K hK => by
    obtain ⟨K, rfl⟩ : ∃ m, K = m + 1 := ⟨K - 1, by omega⟩
    rw [spec_Selected.j0, if_pos rfl]
  have badi : ∀ K, 1 ≤ K → impl_Selected.j0 K l a b true = some [] := fun K hK => by
    obtain ⟨K, rfl⟩ : ∃ m, K = m + 1 := ⟨K - 1, by omega⟩
    rw [impl_Selected.j0, if_pos rfl]
  by_cases c : l.length ≤ 1000
  · obtain ⟨T, o, go, h⟩ := order_eq l c
    have hol := go.1
    by_cases q : g = true ∧ 0 ≤ a ∧ a ≤ b ∧ b ≤ (l.length : Int)
    · obtain ⟨rfl, q1, q2, q3⟩ := q
      obtain ⟨r, hr1, hr⟩ := run_all a b o (by omega) o.length 0 [] (by omega) (by simp)
      refine ⟨T + 3 * l.length + 5, r, hr1, fun K hK => ?_⟩
      obtain ⟨K, rfl⟩ : ∃ m, K = m + 1 := ⟨K - 1, by omega⟩
      have h1 := h K (by omega)
      have hR := hr K (by omega)
      unfold spec_Selected.f impl_Selected.f
      rw [if_neg (show ¬ ((l.length : Int) > 1000) by omega), (hb _ (by omega)).1, (hb _ (by omega)).2, decide_eq_true (by omega), Option.bind_some, Option.bind_some, Option.bind_some, if_pos rfl, if_pos (show (true && true) = true from rfl)]
      rw [if_neg (show ¬ a < 0 by omega), if_neg (show ¬ a < 0 by omega), if_neg (show ¬ a > b by omega), if_neg (show ¬ a > b by omega), decide_eq_false (show ¬ b > (l.length : Int) by omega), spec_Selected.j0, impl_Selected.j0, if_neg (by decide), if_neg (by decide), h1.1, h1.2, Option.bind_some, Option.bind_some, (same a b o K).1]
      rw [show ((0 : Nat) : Int) = 0 from rfl] at hR
      rw [hR]
      exact ⟨rfl, rfl⟩
    · refine ⟨T + l.length + 2, [], by simp, fun K hK => ?_⟩
      unfold spec_Selected.f impl_Selected.f
      rw [if_neg (show ¬ ((l.length : Int) > 1000) by omega), (hb K (by omega)).1, (hb K (by omega)).2, decide_eq_true (by omega), Option.bind_some, Option.bind_some, Option.bind_some, Bool.and_true, bad K (by omega), badi K (by omega)]
      cases g with
      | false => exact ⟨rfl, rfl⟩
      | true =>
        rw [if_pos rfl, if_pos rfl]
        by_cases q1 : a < 0
        · rw [if_pos q1, if_pos q1]; exact ⟨rfl, rfl⟩
        · rw [if_neg q1, if_neg q1]
          by_cases q2 : a > b
          · rw [if_pos q2, if_pos q2]; exact ⟨rfl, rfl⟩
          · rw [if_neg q2, if_neg q2]
            by_cases q3 : b > (l.length : Int)
            · rw [decide_eq_true q3, bad K (by omega), badi K (by omega)]; exact ⟨rfl, rfl⟩
            · exact absurd ⟨rfl, by omega, by omega, by omega⟩ q
  · refine ⟨l.length + 2, [], by simp, fun K hK => ?_⟩
    unfold spec_Selected.f impl_Selected.f
    rw [if_pos (show (l.length : Int) > 1000 by omega), (hb K (by omega)).2, decide_eq_false (by omega), Option.bind_some, Option.bind_some, Bool.and_false, if_neg (by decide), bad K (by omega), badi K (by omega)]
    exact ⟨rfl, rfl⟩
theorem FnExactSelected : laws_FnExactSelected.Pure := by
  intro l a b _ _ _ _
  unfold laws_FnExactSelected.f
  by_cases c : (l.length : Int) > 1048576
  · exact ⟨0, by rw [if_pos c]⟩
  · obtain ⟨T, o, ho, h⟩ := both l a b (by omega)
    refine ⟨T + 1048600, ?_⟩
    generalize hk : T + 1048600 = k
    have h1 := (h k (by omega)).1
    have h2 := (h k (by omega)).2
    have tl := toInt64S_eq l k (by omega) (by omega)
    rw [if_neg c, tl, Option.bind_some, h1, Option.bind_some, Option.bind_some, h2, Option.bind_some, eqStretchS_eq o k (by omega) (by omega), Option.bind_some, if_pos rfl, Option.bind_some, eqInt64S_eq l k (by omega) (by omega), Option.bind_some, if_pos rfl, markInt64S_eq l k (by omega) (by omega), Option.bind_some, if_neg (by show ¬ ((l.length : Int) + 1 < 0); omega), Option.bind_some]
    obtain ⟨k, rfl⟩ : ∃ m, k = m + 1 := ⟨k - 1, by omega⟩
    rw [laws_FnExactSelected.j0, if_neg (by decide)]
    have h2' := (h k (by omega)).2
    rw [markStretchS_eq o k (by omega) (by omega), Option.bind_some]
    show ((laws_heldStretchS.f k (marksS o.length) 1).bind _) = _
    rw [heldStretchS_eq o.length k (by omega) (by omega), Option.bind_some, if_neg (by omega), if_pos rfl, toInt64S_eq l k (by omega) (by omega), Option.bind_some, h2', Option.bind_some, eqStretchS_eq o k (by omega) (by omega), Option.bind_some, if_pos rfl]
    rw [Option.bind_some, if_neg (by omega), if_pos rfl]

end Go.Proofs.Ythjkfmdfkndpcaa.Pure
