/- The program's Decompose returns what the reference's returns. For every input: the law answers true; each argument reads afterwards as it read before. -/
import Derived.Test.YtdagmhbockeleaaPFnExactDecomposex
import Derived.Test.YtdagmhbockeleaaLib
import Derived.Test.YtdagmhbockeleaaDecompDecompose
import Derived.Test.YtdagmhbockeleaaOutInt64SDecompose
set_option linter.unusedSimpArgs false
set_option linter.unusedVariables false
namespace Go.Proofs.Ytdagmhbockeleaa.Pure
open Go.RowKit Go.Proofs.Ytdagmhbockeleaa.PFnExactDecompose Go.Proofs.YtdagmhbockeleaaW.PrintWords Go.Proofs.YtdagmhbockeleaaW.PrintLast Go.Proofs.YtdagmhbockeleaaW.PrintMore Go.Proofs.Ytdagmhbockeleaa.Lib

def both (p f : Int) : List Int := if (0 ≤ p ∧ p ≤ 1114111 ∧ (p < 55296 ∨ p > 57343)) ∧ 1 ≤ f ∧ f ≤ 4 then dec p (decide (f ≥ 3)) else []
theorem point_eq (p : Int) : impl_isPoint.f p = some (decide (0 ≤ p ∧ p ≤ 1114111 ∧ (p < 55296 ∨ p > 57343))) := by
  unfold impl_isPoint.f
  by_cases a : p ≥ 0
  · rw [if_pos a]
    by_cases b : p ≤ 1114111
    · rw [if_pos b]
      by_cases c : p < 55296
      · rw [if_pos c, decide_eq_true (show 0 ≤ p ∧ p ≤ 1114111 ∧ (p < 55296 ∨ p > 57343) by omega)]
      · rw [if_neg c]; congr 1; exact decide_eq_decide.2 (by omega)
    · rw [if_neg b, decide_eq_false (show ¬ (0 ≤ p ∧ p ≤ 1114111 ∧ (p < 55296 ∨ p > 57343)) by omega)]
  · rw [if_neg a, decide_eq_false (show ¬ (0 ≤ p ∧ p ≤ 1114111 ∧ (p < 55296 ∨ p > 57343)) by omega)]
theorem norm_eq (f : Int) : impl_isNorm.f f = some (decide (1 ≤ f ∧ f ≤ 4)) := by
  unfold impl_isNorm.f
  rw [dinF]; rfl
theorem form_eq (f : Int) : spec_l05IsForm.f f = some (decide (1 ≤ f ∧ f ≤ 4)) := by
  unfold spec_l05IsForm.f
  by_cases a : f ≥ 1
  · rw [if_pos a]; congr 1; exact decide_eq_decide.2 (by omega)
  · rw [if_neg a, decide_eq_false (show ¬ (1 ≤ f ∧ f ≤ 4) by omega)]
theorem impl_both (p f : Int) (hp : -9223372036854775808 ≤ p ∧ p ≤ 9223372036854775807) (k : Nat) : impl_Decompose.f (k + 13) p f = some (both p f) := by
  unfold impl_Decompose.f both
  rw [point_eq, Option.bind_some]
  by_cases a : 0 ≤ p ∧ p ≤ 1114111 ∧ (p < 55296 ∨ p > 57343)
  · rw [ite_t (decide_eq_true a), norm_eq, Option.bind_some]
    by_cases b : 1 ≤ f ∧ f ≤ 4
    · rw [ite_t (decide_eq_true b), if_pos ⟨a, b⟩, impl_dec p hp]; rfl
    · rw [ite_f (decide_eq_false b), if_neg (fun h => b h.2)]
  · rw [ite_f (decide_eq_false a), if_neg (fun h => a h.1)]
theorem spec_both (p f : Int) (hp : -9223372036854775808 ≤ p ∧ p ≤ 9223372036854775807) (k : Nat) : spec_Decompose.f (k + 18) p f = some (both p f) := by
  unfold spec_Decompose.f both
  rw [show spec_l01IsPoint.f p = impl_isPoint.f p from rfl, point_eq, Option.bind_some]
  by_cases a : 0 ≤ p ∧ p ≤ 1114111 ∧ (p < 55296 ∨ p > 57343)
  · rw [ite_t (decide_eq_true a), form_eq, Option.bind_some, spec_Decompose.j0]
    by_cases b : 1 ≤ f ∧ f ≤ 4
    · rw [ite_f (by rw [decide_eq_true b]; rfl), if_pos ⟨a, b⟩]
      unfold spec_l05K.f
      rw [Option.bind_some, spec_dec p hp]; rfl
    · rw [ite_t (by rw [decide_eq_false b]; rfl), if_neg (fun h => b h.2)]
  · rw [ite_f (decide_eq_false a), spec_Decompose.j0, ite_t rfl, if_neg (fun h => a h.1)]
theorem FnExactDecompose : laws_FnExactDecompose.Pure := by
  intro p f hp _
  have hb := bd64 hp
  refine ⟨30, ?_⟩
  unfold laws_FnExactDecompose.f
  have hl : (both p f).length ≤ 4 := by
    unfold both
    have := dec_len p (decide (f ≥ 3))
    split
    · omega
    · simp
  rw [spec_both p f hb 12]
  simp only [Option.bind_some]
  rw [impl_both p f hb 17]
  simp only [Option.bind_some]
  generalize both p f = l at hl
  rw [eqInt64S_eq l 30 (by omega) (by omega)]
  simp only [Option.bind_some, if_true]
  rw [markInt64S_eq l 30 (by omega) (by omega)]
  simp only [Option.bind_some]
  rw [heldInt64S_eq l 30 (by omega) (by omega)]
  simp only [Option.bind_some, if_true]
  rw [if_neg (by omega), if_neg (by omega)]

end Go.Proofs.Ytdagmhbockeleaa.Pure
