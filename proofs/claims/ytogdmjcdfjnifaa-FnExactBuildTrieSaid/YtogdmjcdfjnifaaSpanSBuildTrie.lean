/- What the laws' copies and comparisons of rows of spans come to. -/
import Derived.Test.YtogdmjcdfjnifaaPFnExactBuildTriex
import Derived.Test.YtogdmjcdfjnifaaLib
set_option linter.unusedSimpArgs false
set_option linter.unusedVariables false
namespace Go.Proofs.Ytogdmjcdfjnifaa.PFnExactBuildTrie
open Go.RowKit Go.Proofs.YtogdmjcdfjnifaaW.PrintWords Go.Proofs.YtogdmjcdfjnifaaW.PrintLast Go.Proofs.YtogdmjcdfjnifaaW.PrintMore Go.Proofs.Ytogdmjcdfjnifaa.Lib

/-- A law's span as the program's. -/
def asSpan (x : S59) : S57 := ⟨x.f0, x.f1, x.f2⟩
theorem rdL_nat (xs : List S59) (n : Nat) (h : n < xs.length) : rd_T59 xs (n : Int) = xs[n] := by
  simp [rd_T59, List.getD_eq_getElem?_getD, List.getElem?_eq_getElem h]
theorem rdI_nat (xs : List S57) (n : Nat) (h : n < xs.length) : rd_T57 xs (n : Int) = xs[n] := by
  simp [rd_T57, List.getD_eq_getElem?_getD, List.getElem?_eq_getElem h]
theorem toSpanS_eq (l : List S59) (k : Nat) (hk : l.length + 1 ≤ k) (hl : l.length ≤ 1048576) : laws_toSpanS.f k l = some (l.map asSpan) := by
  unfold laws_toSpanS.f
  rw [if_pos (by omega), if_pos (by simp; omega), Int.toNat_natCast, ← laidRow_zero asSpan z57 l]
  refine forLoop (fun k x i => laws_toSpanS.l0 k l x i) l.length (laidRow asSpan z57 l) _ (fun k i hi => ?_) (fun k => ?_) k (by omega)
  · simp only [laws_toSpanS.l0]
    rw [if_pos (by omega), if_pos (by omega), rdL_nat l i hi, w64s hi (by omega)]
    simp only [laws_toSpan.f, Option.bind_some]
    rw [if_pos (by rw [laidRow_length _ _ _ _ (by omega)]; omega), Int.toNat_natCast]
    exact congrArg (fun y => laws_toSpanS.l0 k l y ((i + 1 : Nat) : Int)) (laidRow_set asSpan z57 l i hi)
  · simp only [laws_toSpanS.l0]
    rw [if_neg (by omega), laidRow_all]
theorem eqSpanS_eq (l : List S57) (k : Nat) (hk : l.length + 1 ≤ k) (hl : l.length ≤ 1048576) : laws_eqSpanS.f k l l = some true := by
  unfold laws_eqSpanS.f
  rw [if_pos rfl]
  refine forLoop (fun k (_ : Unit) i => laws_eqSpanS.l0 k l l i) l.length (fun _ => ()) _ (fun k i hi => ?_) (fun k => ?_) k (by omega)
  · simp only [laws_eqSpanS.l0]
    rw [if_pos (by omega), if_pos (by omega), if_pos (by omega), w64s hi (by omega)]
    simp [laws_eqSpan.f]
  · simp only [laws_eqSpanS.l0]
    rw [if_neg (by omega)]
theorem szSpanS_eq (l : List S59) (h : l.length ≤ maxLen) : laws_szSpanS.f l 1048576 = some (if (l.length : Int) > 1048576 then -1 else 1048576 - (l.length : Int)) := by
  unfold laws_szSpanS.f
  unfold maxLen at h
  rw [w64 (by omega) (by omega)]
  by_cases c : (l.length : Int) > 1048576
  · rw [if_pos c, if_pos (by omega)]
  · rw [if_neg c, if_neg (by omega)]

end Go.Proofs.Ytogdmjcdfjnifaa.PFnExactBuildTrie
