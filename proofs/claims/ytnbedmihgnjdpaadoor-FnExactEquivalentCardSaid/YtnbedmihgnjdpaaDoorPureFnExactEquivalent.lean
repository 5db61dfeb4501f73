/- The program's Equivalent returns what the reference's returns. For every input: the law answers true; each argument reads afterwards as it read before. -/
import Derived.Test.YtnbedmihgnjdpaaDoorNormTEquivalent
set_option linter.unusedSimpArgs false
set_option linter.unusedVariables false
namespace Go.Proofs.YtnbedmihgnjdpaaDoor.Pure
open Go.RowKit Go.Proofs.YtnbedmihgnjdpaaDoor.PFnExactEquivalent Go.Proofs.YtnbedmihgnjdpaaDoorW.PrintWords Go.Proofs.YtnbedmihgnjdpaaDoorW.PrintLast Go.Proofs.YtnbedmihgnjdpaaDoorW.PrintMore Go.Proofs.YtnbedmihgnjdpaaDoor.Lib

theorem FnExactEquivalent : laws_FnExactEquivalent.Pure := by
  intro a b ha hb
  refine Ev.rounds (g := fun k => laws_FnExactEquivalent.f k a b) ?_
  unfold laws_FnExactEquivalent.f
  by_cases c : (a.size : Int) > 1048576
  · simp only [if_pos c]; exact Ev.now _
  by_cases c2 : (b.size : Int) > 1048576
  · simp only [if_neg c, if_pos c2]; exact Ev.now _
  simp only [if_neg c, if_neg c2]
  have h1 : (1 : Int) ≤ 1 ∧ (1 : Int) ≤ 4 := by omega
  obtain ⟨r, e1, e2⟩ : ∃ r, Ev (fun k => spec_Equivalent.f k a b) r ∧ Ev (fun k => impl_Equivalent.f k a b) r := by
    unfold spec_Equivalent.f impl_Equivalent.f impl_long.f
    simp only [Option.bind_some]
    by_cases l1 : (a.size : Int) ≤ 65536
    · simp only [if_pos l1, decide_eq_false (show ¬ (a.size : Int) > 65536 by omega), Bool.false_eq_true, if_false]
      by_cases l2 : (b.size : Int) ≤ 65536
      · simp only [if_pos l2, decide_eq_false (show ¬ (b.size : Int) > 65536 by omega), Bool.false_eq_true, if_false]
        refine ⟨(txt 1 a).toList == (txt 1 b).toList, ?_, ?_⟩
        · refine Ev.bind (g := fun k => spec_l05Text.f k 1 a) (spec_text_ev 1 h1 a (by omega)) ?_
          exact Ev.bind (g := fun k => spec_l05Text.f k 1 b) (spec_text_ev 1 h1 b (by omega)) (Ev.now _)
        · refine Ev.bind (g := fun k => impl_norm.f k 1 a) (impl_norm_ev 1 h1 a (by omega)) ?_
          exact Ev.bind (g := fun k => impl_norm.f k 1 b) (impl_norm_ev 1 h1 b (by omega)) (Ev.now _)
      · simp only [if_neg l2, decide_eq_true (show (b.size : Int) > 65536 by omega), if_true]
        exact ⟨false, Ev.now _, Ev.now _⟩
    · simp only [if_neg l1, decide_eq_true (show (a.size : Int) > 65536 by omega), if_true]
      exact ⟨false, Ev.now _, Ev.now _⟩
  refine Ev.bind (g := fun k => spec_Equivalent.f k a b) e1 ?_
  refine Ev.bind (g := fun k => impl_Equivalent.f k a b) e2 ?_
  simp only [bne_self_eq_false, Bool.false_eq_true, if_false]
  exact Ev.now _
end Go.Proofs.YtnbedmihgnjdpaaDoor.Pure
