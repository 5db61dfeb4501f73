/- What the printed functions that write points as bytes come to: isPoint, write, l01Write, l01Text. -/
import Derived.Test.YtmlhnpggjkoinaaDoorPFnExactWordsx
import Derived.Test.YtmlhnpggjkoinaaDoorLib
set_option linter.unusedSimpArgs false
set_option linter.unusedVariables false
namespace Go.Proofs.YtmlhnpggjkoinaaDoor.PFnExactWords
open Go.RowKit Go.Proofs.YtmlhnpggjkoinaaDoorW.PrintWords Go.Proofs.YtmlhnpggjkoinaaDoorW.PrintLast Go.Proofs.YtmlhnpggjkoinaaDoorW.PrintMore Go.Proofs.YtmlhnpggjkoinaaDoor.Lib

theorem isPointS_eq (p : Int) : spec_l01IsPoint.f p = some (isPt p) := by
  unfold spec_l01IsPoint.f isPt
  by_cases h0 : p ≥ 0
  · rw [if_pos h0]
    by_cases h1 : p ≤ 1114111
    · rw [if_pos h1]
      by_cases h2 : p < 55296
      · rw [if_pos h2]; simp [h1, h2]; omega
      · rw [if_neg h2]; simp [h1, h2]; omega
    · rw [if_neg h1]; simp [h1]
  · rw [if_neg h0]; simp; omega

theorem specWrite_j0 (k : Nat) (p : Int) (h0 : 0 ≤ p) (h1 : p ≤ 1114111) : spec_l01Write.j0 (k + 1) p = some (strOfNums (enc p)) := by
  have d1 : Int.tdiv p 64 = p / 64 := Int.tdiv_eq_ediv_of_nonneg h0
  have d2 : Int.tdiv p 4096 = p / 4096 := Int.tdiv_eq_ediv_of_nonneg h0
  have d3 : Int.tdiv p 262144 = p / 262144 := Int.tdiv_eq_ediv_of_nonneg h0
  have m1 : Int.tmod p 64 = p % 64 := Int.tmod_eq_emod_of_nonneg h0
  have w1 : wrap64 (p / 64) = p / 64 := w64 (by omega) (by omega)
  have w2 : wrap64 (p / 4096) = p / 4096 := w64 (by omega) (by omega)
  have w3 : wrap64 (p / 262144) = p / 262144 := w64 (by omega) (by omega)
  have m2 : Int.tmod (p / 64) 64 = p / 64 % 64 := Int.tmod_eq_emod_of_nonneg (by omega)
  have m3 : Int.tmod (p / 4096) 64 = p / 4096 % 64 := Int.tmod_eq_emod_of_nonneg (by omega)
  simp only [spec_l01Write.j0, d1, d2, d3, m1, w1, w2, w3, m2, m3]
  unfold enc
  by_cases c1 : p < 128
  · rw [if_pos c1, if_pos c1, Int.emod_eq_of_lt h0 (by omega)]
  · rw [if_neg c1, if_neg c1]
    by_cases c2 : p < 2048
    · rw [if_pos c2, if_pos c2]
      refine congrArg (fun l => some (strOfNums l)) ?_
      simp only [List.cons.injEq, and_true]
      refine ⟨?_, ?_⟩ <;> (unfold wrap64; omega)
    · rw [if_neg c2, if_neg c2]
      by_cases c3 : p < 65536
      · rw [if_pos c3, if_pos c3]
        refine congrArg (fun l => some (strOfNums l)) ?_
        simp only [List.cons.injEq, and_true]
        refine ⟨?_, ?_, ?_⟩ <;> (unfold wrap64; omega)
      · rw [if_neg c3, if_neg c3]
        refine congrArg (fun l => some (strOfNums l)) ?_
        simp only [List.cons.injEq, and_true]
        refine ⟨?_, ?_, ?_, ?_⟩ <;> (unfold wrap64; omega)
theorem specWrite_eq (k : Nat) (p : Int) : spec_l01Write.f (k + 1) p = some (strOfNums (enc (fixPt p))) := by
  unfold spec_l01Write.f
  rw [isPointS_eq]
  simp only [Option.bind_some]
  have h := fixPt_range p
  unfold fixPt at h ⊢
  by_cases c : isPt p = true
  · rw [if_pos c] at h ⊢
    rw [if_pos c]
    exact specWrite_j0 k p (by omega) (by omega)
  · rw [if_neg c, if_neg c]
    exact specWrite_j0 k 65533 (by omega) (by omega)

end Go.Proofs.YtmlhnpggjkoinaaDoor.PFnExactWords
