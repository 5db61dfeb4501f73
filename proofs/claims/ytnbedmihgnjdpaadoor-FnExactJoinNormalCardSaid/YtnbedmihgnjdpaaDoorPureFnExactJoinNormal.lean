/- The program's JoinNormal returns what the reference's returns. For every input: the law answers true; each argument reads afterwards as it read before. -/
import Derived.Test.YtnbedmihgnjdpaaDoorNormTJoinNormal
set_option linter.unusedSimpArgs false
set_option linter.unusedVariables false
namespace Go.Proofs.YtnbedmihgnjdpaaDoor.Pure
open Go.RowKit Go.Proofs.YtnbedmihgnjdpaaDoor.PFnExactJoinNormal Go.Proofs.YtnbedmihgnjdpaaDoorW.PrintWords Go.Proofs.YtnbedmihgnjdpaaDoorW.PrintLast Go.Proofs.YtnbedmihgnjdpaaDoorW.PrintMore Go.Proofs.YtnbedmihgnjdpaaDoor.Lib

theorem FnExactJoinNormal : laws_FnExactJoinNormal.Pure := by
  intro f a b hf ha hb
  refine Ev.rounds (g := fun k => laws_FnExactJoinNormal.f k f a b) ?_
  unfold laws_FnExactJoinNormal.f
  by_cases c : (a.size : Int) > 1048576
  · simp only [if_pos c]; exact Ev.now _
  by_cases c2 : (b.size : Int) > 1048576
  · simp only [if_neg c, if_pos c2]; exact Ev.now _
  simp only [if_neg c, if_neg c2]
  obtain ⟨r, e1, e2⟩ : ∃ r, Ev (fun k => spec_JoinNormal.f k f a b) r ∧ Ev (fun k => impl_JoinNormal.f k f a b) r := by
    unfold spec_JoinNormal.f impl_JoinNormal.f
    have no1 : Ev (fun k => spec_JoinNormal.j0 k f a b true) ⟨#[]⟩ := by
      refine Ev.succ ?_
      simp only [spec_JoinNormal.j0, if_true]
      exact Ev.now _
    have no2 : Ev (fun k => impl_JoinNormal.j0 k f a b true) ⟨#[]⟩ := by
      refine Ev.succ ?_
      simp only [impl_JoinNormal.j0, if_true]
      exact Ev.now _
    cases h1 : isN f a with
    | false =>
      refine ⟨⟨#[]⟩, Ev.bind (g := fun k => spec_IsNormal.f k f a) (isN_spec f a (by omega)) ?_, Ev.bind (g := fun k => impl_IsNormal.f k f a) (isN_impl f a (by omega)) ?_⟩
      · simp only [h1, Bool.false_eq_true, if_false]; exact no1
      · simp only [h1, Bool.false_eq_true, if_false]; exact no2
    | true =>
      cases h2 : isN f b with
      | false =>
        refine ⟨⟨#[]⟩, Ev.bind (g := fun k => spec_IsNormal.f k f a) (isN_spec f a (by omega)) ?_, Ev.bind (g := fun k => impl_IsNormal.f k f a) (isN_impl f a (by omega)) ?_⟩
        · simp only [h1, if_true]
          refine Ev.bind (g := fun k => spec_IsNormal.f k f b) (isN_spec f b (by omega)) ?_
          simp only [h2, Bool.not_false]; exact no1
        · simp only [h1, if_true]
          refine Ev.bind (g := fun k => impl_IsNormal.f k f b) (isN_impl f b (by omega)) ?_
          simp only [h2, Bool.not_false]; exact no2
      | true =>
        have g1 := h1
        have g2 := h2
        unfold isN at g1 g2
        simp only [Bool.and_eq_true, decide_eq_true_eq] at g1 g2
        have hb : 1 ≤ f ∧ f ≤ 4 := g1.1.2
        have hsz : (a ++ b).size = a.size + b.size := ByteArray.size_append
        have hc : a.size + b.size ≤ 9223372036854775807 := by omega
        refine ⟨sml (txt f (a ++ b)), Ev.bind (g := fun k => spec_IsNormal.f k f a) (isN_spec f a (by omega)) ?_, Ev.bind (g := fun k => impl_IsNormal.f k f a) (isN_impl f a (by omega)) ?_⟩
        · simp only [h1, if_true]
          refine Ev.bind (g := fun k => spec_IsNormal.f k f b) (isN_spec f b (by omega)) ?_
          simp only [h2, Bool.not_true]
          refine Ev.succ ?_
          simp only [spec_JoinNormal.j0, Bool.false_eq_true, if_false, if_pos hc, small_eq, Option.bind_some]
          exact Ev.bind (g := fun k => spec_l05Text.f k f (a ++ b)) (spec_text_ev f hb _ (by omega)) (Ev.now _)
        · simp only [h1, if_true]
          refine Ev.bind (g := fun k => impl_IsNormal.f k f b) (isN_impl f b (by omega)) ?_
          simp only [h2, Bool.not_true]
          refine Ev.succ ?_
          simp only [impl_JoinNormal.j0, Bool.false_eq_true, if_false, if_pos hc, short_eq, Option.bind_some]
          exact Ev.bind (g := fun k => impl_norm.f k f (a ++ b)) (impl_norm_ev f hb _ (by omega)) (Ev.now _)
  refine Ev.bind (g := fun k => spec_JoinNormal.f k f a b) e1 ?_
  refine Ev.bind (g := fun k => impl_JoinNormal.f k f a b) e2 ?_
  simp only [if_true]
  exact Ev.now _
end Go.Proofs.YtnbedmihgnjdpaaDoor.Pure
