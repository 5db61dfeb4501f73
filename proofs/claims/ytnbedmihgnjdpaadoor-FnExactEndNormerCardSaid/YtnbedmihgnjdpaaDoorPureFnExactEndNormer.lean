/- The program's EndNormer returns what the reference's returns. For every input: the law answers true; each argument reads afterwards as it read before. -/
import Derived.Test.YtnbedmihgnjdpaaDoorNormTEndNormer
set_option linter.unusedSimpArgs false
set_option linter.unusedVariables false
namespace Go.Proofs.YtnbedmihgnjdpaaDoor.Pure
open Go.RowKit Go.Proofs.YtnbedmihgnjdpaaDoor.PFnExactEndNormer Go.Proofs.YtnbedmihgnjdpaaDoorW.PrintWords Go.Proofs.YtnbedmihgnjdpaaDoorW.PrintLast Go.Proofs.YtnbedmihgnjdpaaDoorW.PrintMore Go.Proofs.YtnbedmihgnjdpaaDoor.Lib

theorem FnExactEndNormer : laws_FnExactEndNormer.Pure := by
  intro f s hf hs
  refine Ev.rounds (g := fun k => laws_FnExactEndNormer.f k f s) ?_
  unfold laws_FnExactEndNormer.f laws_szNormer.f laws_toNormer.f
  have hm : s.size ≤ 9223372036854775807 := Nat.le_trans hs (by decide)
  rw [w64 (x := 1048576 - (s.size : Int)) (by omega) (by omega)]
  by_cases c : (1048576 : Int) - (s.size : Int) < 0
  · simp only [if_pos c, Option.bind_some, if_pos (show (-1 : Int) < 0 by omega)]
    exact Ev.now _
  simp only [if_neg c, Option.bind_some]
  obtain ⟨r, e1, e2⟩ : ∃ r, Ev (fun k => spec_EndNormer.f k f s) r ∧ Ev (fun k => impl_EndNormer.f k f s) r := by
    unfold spec_EndNormer.f impl_EndNormer.f
    have n1 : Ev (fun k => spec_NormerFault.f k f s) (nfault f s) := Ev.from_ (s.size + 60) (fun k hk => spec_nf f s (by omega) k hk)
    have n2 : Ev (fun k => impl_NormerFault.f k f s) (nfault f s) := Ev.from_ (s.size + 40) (fun k hk => impl_nf f s (by omega) k hk)
    by_cases h0 : nfault f s = 0
    · have hb : 1 ≤ f ∧ f ≤ 4 := by
        unfold nfault at h0
        split at h0
        next h => exact h.1
        next => omega
      refine ⟨(0, f, ⟨#[]⟩, txt f s), Ev.bind (g := fun k => spec_NormerFault.f k f s) n1 ?_, Ev.bind (g := fun k => impl_NormerFault.f k f s) n2 ?_⟩
      · simp only [if_pos h0]
        exact Ev.bind (g := fun k => spec_l05Text.f k f s) (spec_text_ev f hb s (by omega)) (Ev.now _)
      · simp only [if_pos h0]
        exact Ev.bind (g := fun k => impl_norm.f k f s) (impl_norm_ev f hb s (by omega)) (Ev.now _)
    · refine ⟨(1, 0, ⟨#[]⟩, ⟨#[]⟩), Ev.bind (g := fun k => spec_NormerFault.f k f s) n1 ?_, Ev.bind (g := fun k => impl_NormerFault.f k f s) n2 ?_⟩
      · simp only [if_neg h0]; exact Ev.now _
      · simp only [if_neg h0]; exact Ev.now _
  refine Ev.bind (g := fun k => spec_EndNormer.f k f s) e1 ?_
  refine Ev.bind (g := fun k => impl_EndNormer.f k f s) e2 ?_
  unfold laws_eqNormerOut.f laws_eqNormer.f
  simp only [if_true, Option.bind_some]
  exact Ev.now _
end Go.Proofs.YtnbedmihgnjdpaaDoor.Pure
