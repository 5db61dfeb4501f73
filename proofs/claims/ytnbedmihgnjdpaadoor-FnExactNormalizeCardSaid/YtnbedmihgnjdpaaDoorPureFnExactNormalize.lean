/- The program's Normalize returns what the reference's returns. For every input: the law answers true; each argument reads afterwards as it read before. -/
import Derived.Test.YtnbedmihgnjdpaaDoorNormTNormalize
set_option linter.unusedSimpArgs false
set_option linter.unusedVariables false
namespace Go.Proofs.YtnbedmihgnjdpaaDoor.Pure
open Go.RowKit Go.Proofs.YtnbedmihgnjdpaaDoor.PFnExactNormalize Go.Proofs.YtnbedmihgnjdpaaDoorW.PrintWords Go.Proofs.YtnbedmihgnjdpaaDoorW.PrintLast Go.Proofs.YtnbedmihgnjdpaaDoorW.PrintMore Go.Proofs.YtnbedmihgnjdpaaDoor.Lib

theorem FnExactNormalize : laws_FnExactNormalize.Pure := by
  intro f s hf hs
  refine Ev.rounds (g := fun k => laws_FnExactNormalize.f k f s) ?_
  unfold laws_FnExactNormalize.f
  by_cases c : (s.size : Int) > 1048576
  · simp only [if_pos c]; exact Ev.now _
  simp only [if_neg c]
  have hs2 : s.size ≤ 1048576 := by omega
  obtain ⟨r, h1, h2⟩ : ∃ r, Ev (fun k => spec_Normalize.f k f s) r ∧ Ev (fun k => impl_Normalize.f k f s) r := by
    unfold spec_Normalize.f impl_Normalize.f impl_long.f
    simp only [isFormT, isNormT, Option.bind_some]
    by_cases h : (s.size : Int) > 65536
    · refine ⟨⟨#[]⟩, ?_, ?_⟩
      · simp only [if_pos h]
        refine Ev.succ ?_
        simp only [spec_Normalize.j0, if_true]
        exact Ev.now _
      · simp only [decide_eq_true h, if_true]
        refine Ev.succ ?_
        simp only [impl_Normalize.j0, if_true]
        exact Ev.now _
    · by_cases hb : 1 ≤ f ∧ f ≤ 4
      · refine ⟨sml (txt f s), ?_, ?_⟩
        · simp only [if_neg h, decide_eq_true hb, Bool.not_true]
          refine Ev.succ ?_
          simp only [spec_Normalize.j0, Bool.false_eq_true, if_false, small_eq, Option.bind_some]
          exact Ev.bind (g := fun k => spec_l05Text.f k f s) (spec_text_ev f hb s hs2) (Ev.now _)
        · simp only [decide_eq_false h, Bool.false_eq_true, if_false, decide_eq_true hb, Bool.not_true]
          refine Ev.succ ?_
          simp only [impl_Normalize.j0, Bool.false_eq_true, if_false, short_eq, Option.bind_some]
          exact Ev.bind (g := fun k => impl_norm.f k f s) (impl_norm_ev f hb s hs2) (Ev.now _)
      · refine ⟨⟨#[]⟩, ?_, ?_⟩
        · simp only [if_neg h, decide_eq_false hb, Bool.not_false]
          refine Ev.succ ?_
          simp only [spec_Normalize.j0, if_true]
          exact Ev.now _
        · simp only [decide_eq_false h, Bool.false_eq_true, if_false, decide_eq_false hb, Bool.not_false]
          refine Ev.succ ?_
          simp only [impl_Normalize.j0, if_true]
          exact Ev.now _
  refine Ev.bind (g := fun k => spec_Normalize.f k f s) h1 ?_
  refine Ev.bind (g := fun k => impl_Normalize.f k f s) h2 ?_
  simp only [if_true]
  exact Ev.now _
end Go.Proofs.YtnbedmihgnjdpaaDoor.Pure
