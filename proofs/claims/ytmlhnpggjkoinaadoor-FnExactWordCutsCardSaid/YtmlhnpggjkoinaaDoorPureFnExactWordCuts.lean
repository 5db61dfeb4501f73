/- The program's WordCuts returns what the reference's returns. For every input: the law answers true; each argument reads afterwards as it read before. -/
import Derived.Test.YtmlhnpggjkoinaaDoorPFnExactWordCutsx
import Derived.Test.YtmlhnpggjkoinaaDoorWordGWordCuts
import Derived.Test.YtmlhnpggjkoinaaDoorOutInt64SWordCuts
set_option linter.unusedSimpArgs false
set_option linter.unusedVariables false
namespace Go.Proofs.YtmlhnpggjkoinaaDoor.Pure
open Go.RowKit Go.Proofs.YtmlhnpggjkoinaaDoor.PFnExactWordCuts Go.Proofs.YtmlhnpggjkoinaaDoorW.PrintWords Go.Proofs.YtmlhnpggjkoinaaDoorW.PrintLast Go.Proofs.YtmlhnpggjkoinaaDoorW.PrintMore Go.Proofs.YtmlhnpggjkoinaaDoor.Lib

theorem FnExactWordCuts : laws_FnExactWordCuts.Pure := by
  intro s t _ ht
  obtain ⟨htl, _⟩ := ht
  refine ⟨5000001, ?_⟩
  unfold laws_FnExactWordCuts.f
  by_cases c : (s.size : Int) > 1048576
  · rw [if_pos c]
  · have hs : s.size ≤ 1048576 := by omega
    rw [if_neg c, szTailorS_eq t htl, Option.bind_some]
    by_cases c2 : (t.length : Int) > 1048576
    · rw [if_pos c2, if_pos (by omega)]
    · rw [if_neg c2, if_neg (by omega), toTailorS_eq t _ (by omega) (by omega)]
      have hT : (t.map asTail).length ≤ 1048576 := by rw [List.length_map]; omega
      have hl := wordsOf_len s (t.map asTail) hs
      rw [Option.bind_some, specWC_eq s _ _ (by omega), Option.bind_some, Option.bind_some, implWC_eq s _ _ (by omega), Option.bind_some, eqInt64S_eq _ _ (by omega) (by omega), Option.bind_some, if_pos rfl, Option.bind_some, eqTailorS_eq _ _ (by omega) hT, Option.bind_some, if_pos rfl]
      obtain ⟨y, hy⟩ := markTailorS_eq (t.map asTail) 5000001 hT (by omega)
      rw [hy, Option.bind_some, if_neg (by omega)]
      rw [Option.bind_some]
      rw [show (5000001 : Nat) = 5000000 + 1 from rfl, laws_FnExactWordCuts.j0, if_neg (by decide), markInt64S_eq _ _ (by omega) (by omega), Option.bind_some]
      rw [heldInt64S_eq _ _ (by omega) (by omega), Option.bind_some, if_neg (by omega), if_pos rfl, toTailorS_eq t _ (by omega) (by omega), Option.bind_some, implWC_eq s _ _ (by omega), Option.bind_some, eqInt64S_eq _ _ (by omega) (by omega), Option.bind_some, if_pos rfl, Option.bind_some, if_neg (by omega), if_pos rfl]
end Go.Proofs.YtmlhnpggjkoinaaDoor.Pure
