/- The program's JoinsTo returns what the reference's returns. For every input: the law answers true; each argument reads afterwards as it read before. -/
import Derived.Test.YtdagmhbockeleaaPFnExactJoinsTox
import Derived.Test.YtdagmhbockeleaaLib
import Derived.Test.YtdagmhbockeleaaKindJoinsTo
set_option linter.unusedSimpArgs false
set_option linter.unusedVariables false
namespace Go.Proofs.Ytdagmhbockeleaa.Pure
open Go.RowKit Go.Proofs.Ytdagmhbockeleaa.PFnExactJoinsTo Go.Proofs.YtdagmhbockeleaaW.PrintWords Go.Proofs.YtdagmhbockeleaaW.PrintLast Go.Proofs.Ytdagmhbockeleaa.Lib

theorem letters_cat (p : Int) (h0 : 1280 ≤ p) (h1 : p ≤ 1311) : (kindOf p).1 = 7 := by
  obtain ⟨n, rfl⟩ : ∃ n : Nat, p = (n : Int) + 1280 := ⟨(p - 1280).toNat, by omega⟩
  have key : ∀ m : Fin 32, (kindOf ((m.val : Int) + 1280)).1 = 7 := by decide +kernel
  exact key ⟨n, by omega⟩
theorem rd_letters (p : Int) (h0 : 1280 ≤ p) : ∃ r, (if 0 ≤ (Int.tmod p 4) then (if (Int.tmod p 4) < ((([3, 2, 3, 0] : List Int).length : Nat) : Int) then (some (rd [3, 2, 3, 0] (Int.tmod p 4))) else (none)) else (none)) = some r := by
  have m : Int.tmod p 4 = p % 4 := Int.tmod_eq_emod_of_nonneg (by omega)
  rw [m, if_pos (by omega), if_pos (by simp; omega)]
  exact ⟨_, rfl⟩
theorem FnExactJoinsTo : laws_FnExactJoinsTo.Pure := by
  intro p hp
  have hb := bd64 hp
  refine ⟨42, ?_⟩
  unfold laws_FnExactJoinsTo.f spec_JoinsTo.f spec_l01Cat.f impl_JoinsTo.f impl_isMark.f impl_Category.f spec_l10Letter.f
  rw [known_eq 42 (by omega) p hb, kind_eq 42 (by omega) p hb]
  simp only [Option.bind_some, inF_eq, decide_eq_true_eq, beq_iff_eq]
  by_cases h : 1280 ≤ p ∧ p ≤ 1311
  · have e := letters_cat p h.1 h.2
    obtain ⟨r, hr⟩ := rd_letters p h.1
    simp only [e, if_pos h]
    rw [if_neg (by decide), if_neg (by omega), if_pos (by omega)]
    simp only [decide_eq_true_eq, if_pos h.2, hr, Option.bind_some, if_true]
  · by_cases h2 : p = 7936
    · subst h2
      have e : (kindOf 7936).1 = 11 := by decide +kernel
      simp [e]
    · have h3 : ¬ ((if p ≥ 1280 then some (decide (p ≤ 1311)) else some false) = some true) := by
        by_cases a : p ≥ 1280
        · rw [if_pos a]; simp; omega
        · rw [if_neg a]; simp
      obtain ⟨b, hb2⟩ : ∃ b, (if p ≥ 1280 then some (decide (p ≤ 1311)) else some false) = some b := by split <;> exact ⟨_, rfl⟩
      have h4 : ¬ b = true := by rintro rfl; exact h3 hb2
      rw [hb2]
      simp only [Option.bind_some, if_neg h4, if_neg h, if_neg h2]
      by_cases c : (kindOf p).1 = 3
      · simp [c]
      · simp [c]

end Go.Proofs.Ytdagmhbockeleaa.Pure
