/- The program's CharCuts returns what the reference's returns. For every input: the law answers true; each argument reads afterwards as it read before. -/
import Derived.Test.YtmlhnpggjkoinaaDoorPFnExactCharCutsx
import Derived.Test.YtmlhnpggjkoinaaDoorCutDCharCuts
import Derived.Test.YtmlhnpggjkoinaaDoorOutInt64SCharCuts
set_option linter.unusedSimpArgs false
set_option linter.unusedVariables false
namespace Go.Proofs.YtmlhnpggjkoinaaDoor.Pure
open Go.RowKit Go.Proofs.YtmlhnpggjkoinaaDoor.PFnExactCharCuts Go.Proofs.YtmlhnpggjkoinaaDoorW.PrintWords Go.Proofs.YtmlhnpggjkoinaaDoorW.PrintLast Go.Proofs.YtmlhnpggjkoinaaDoorW.PrintMore Go.Proofs.YtmlhnpggjkoinaaDoor.Lib

def charCutsOf (s : ByteArray) : List Int := if (s.size : Int) > 65536 then [] else charP s
theorem spec_eq (s : ByteArray) (hs : s.size ≤ 1048576) (k : Nat) (hk : 2097352 ≤ k) : spec_CharCuts.f k s = some (charCutsOf s) := by
  unfold spec_CharCuts.f charCutsOf
  split
  · rfl
  · rw [specChars_eq s hs k (by omega)]; rfl
theorem impl_eq (s : ByteArray) (hs : s.size ≤ 1048576) (k : Nat) (hk : 2097352 ≤ k) : impl_CharCuts.f k s = some (charCutsOf s) := by
  unfold impl_CharCuts.f impl_long.f charCutsOf
  simp only [Option.bind_some, decide_eq_true_eq]
  split
  · rfl
  · rw [charPlaces_eq s hs k (by omega)]; rfl
theorem FnExactCharCuts : laws_FnExactCharCuts.Pure := by
  intro s _
  refine ⟨2097352, ?_⟩
  unfold laws_FnExactCharCuts.f
  by_cases c : (s.size : Int) > 1048576
  · rw [if_pos c]
  · have hs : s.size ≤ 1048576 := by omega
    have hl : (charCutsOf s).length ≤ 1048577 := by
      unfold charCutsOf
      split
      · simp
      · exact charP_len s hs
    rw [if_neg c, spec_eq s hs _ (Nat.le_refl _)]
    simp only [Option.bind_some]
    rw [impl_eq s hs _ (Nat.le_refl _)]
    simp only [Option.bind_some]
    generalize charCutsOf s = l at hl
    rw [eqInt64S_eq l _ (by omega) (by omega)]
    simp only [Option.bind_some, if_true]
    rw [markInt64S_eq l _ (by omega) (by omega)]
    simp only [Option.bind_some]
    rw [heldInt64S_eq l _ (by omega) (by omega)]
    simp only [Option.bind_some, if_true]
    rw [if_neg (by omega), if_neg (by omega)]

end Go.Proofs.YtmlhnpggjkoinaaDoor.Pure
