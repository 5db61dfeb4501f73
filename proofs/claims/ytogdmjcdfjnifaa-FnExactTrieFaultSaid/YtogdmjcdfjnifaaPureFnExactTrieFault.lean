/- The program's TrieFault returns what the reference's returns. For every input: the law answers true; each argument reads afterwards as it read before. -/
import Derived.Test.YtogdmjcdfjnifaaTriePTrieFault
set_option linter.unusedSimpArgs false
set_option linter.unusedVariables false
namespace Go.Proofs.Ytogdmjcdfjnifaa.Pure
open Go.RowKit Go.Proofs.Ytogdmjcdfjnifaa.PFnExactTrieFault Go.Proofs.YtogdmjcdfjnifaaW.PrintWords Go.Proofs.YtogdmjcdfjnifaaW.PrintLast Go.Proofs.YtogdmjcdfjnifaaW.PrintMore Go.Proofs.Ytogdmjcdfjnifaa.Lib Go.Proofs.Ytogdmjcdfjnifaa.EvKit
open Go.Proofs.Ytogdmjcdfjnifaa.TrieMap (nextF blkAt cnt tfGood tfAll)

theorem FnExactTrieFault : laws_FnExactTrieFault.Pure := by
  intro l0 l1 h0 h1
  refine Ev.rounds (g := fun k => laws_FnExactTrieFault.f k l0 l1) ?_
  unfold laws_FnExactTrieFault.f
  rcases sz_trie l0 l1 (Nat.le_trans h0.1 (by decide)) (Nat.le_trans h1.1 (by decide)) with h | ⟨r, hr, h, g0, g1⟩
  · simp only [h, Option.bind_some, if_pos (show (-1 : Int) < 0 by omega)]
    exact Ev.now _
  simp only [h, Option.bind_some, if_neg (show ¬ r < 0 by omega)]
  refine Ev.bind (g := fun k => laws_toTrie.f k l0 l1) (to_trie l0 l1 g0 g1) ?_
  refine Ev.bind (g := fun k => spec_TrieFault.f k l0 l1) (spec_fault l0 l1 g0 g1) ?_
  refine Ev.bind (g := fun k => laws_toTrie.f k l0 l1) (to_trie l0 l1 g0 g1) ?_
  simp only [impl_fault l0 l1 g0 g1 h1.2, Option.bind_some, if_true]
  refine Ev.bind (g := fun k => laws_toTrie.f k l0 l1) (to_trie l0 l1 g0 g1) ?_
  refine Ev.bind (g := fun k => laws_eqTrie.f k l0 l1 l0 l1) (eq_trie l0 l1 g0 g1) ?_
  simp only [if_true]
  exact Ev.now _
end Go.Proofs.Ytogdmjcdfjnifaa.Pure
