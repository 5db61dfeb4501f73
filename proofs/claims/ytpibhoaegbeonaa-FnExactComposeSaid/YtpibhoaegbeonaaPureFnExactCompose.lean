/- The program's Compose returns what the reference's returns. For every input: the law answers true; each argument reads afterwards as it read before. -/
import Derived.Test.YtpibhoaegbeonaaPFnExactComposex
import Derived.Test.YtpibhoaegbeonaaLib
namespace Go.Proofs.Ytpibhoaegbeonaa.Pure
open Go.RowKit Go.Proofs.Ytpibhoaegbeonaa.PFnExactCompose Go.Proofs.YtpibhoaegbeonaaW.PrintWords Go.Proofs.YtpibhoaegbeonaaW.PrintLast Go.Proofs.Ytpibhoaegbeonaa.Lib

def letterAt (a : Int) : Int := if 65 ≤ a ∧ a ≤ 90 then a - 65 else if 97 ≤ a ∧ a ≤ 122 then a - 71 else -1
theorem letterAt_range (a : Int) : -1 ≤ letterAt a ∧ letterAt a ≤ 51 := by unfold letterAt; split <;> (try split) <;> omega
def c5 (a b : Int) : Int := if 12288 ≤ a ∧ a ≤ 23459 ∧ (a - 12288) % 28 = 0 ∧ 1857 ≤ b ∧ b ≤ 1883 then a + b - 1856 else -1
def c4 (a b : Int) : Int := if 1792 ≤ a ∧ a ≤ 1810 ∧ 1824 ≤ b ∧ b ≤ 1844 then 12288 + ((a - 1792) * 21 + b - 1824) * 28 else c5 a b
def c3 (a b : Int) : Int := if 8704 ≤ a ∧ a ≤ 9119 ∧ b = 4096 then a + 512 else c4 a b
def c2 (a b i : Int) : Int := if 0 ≤ i ∧ 4112 ≤ b ∧ b ≤ 4119 then 4592 + 8 * i + b else c3 a b
def c1 (a b i : Int) : Int := if 0 ≤ i ∧ 4096 ≤ b ∧ b ≤ 4103 then 4096 + 8 * i + b else c2 a b i

theorem spec_letter (k : Nat) (a : Int) : spec_l05LetterAt.f (k + 1) a = some (letterAt a) := by
  unfold spec_l05LetterAt.f letterAt
  simp only [spec_l05LetterAt.j0]
  by_cases h1 : a ≥ 65
  · by_cases h2 : a ≤ 90
    · rw [if_pos h1, if_pos (decide_eq_true h2), if_pos (show 65 ≤ a ∧ a ≤ 90 from ⟨h1, h2⟩), w64 (by omega) (by omega)]
    · rw [if_pos h1, if_neg (show ¬ decide (a ≤ 90) = true by simpa using h2), if_neg (show ¬ (65 ≤ a ∧ a ≤ 90) by omega)]
      by_cases h3 : a ≥ 97
      · by_cases h4 : a ≤ 122
        · rw [if_pos h3, if_pos h4, if_pos (show 97 ≤ a ∧ a ≤ 122 from ⟨h3, h4⟩), w64 (x := a - 97) (by omega) (by omega), w64 (by omega) (by omega)]
          congr 1; omega
        · rw [if_pos h3, if_neg h4, if_neg (show ¬ (97 ≤ a ∧ a ≤ 122) by omega)]
      · rw [if_neg h3, if_neg (show ¬ (97 ≤ a ∧ a ≤ 122) by omega)]
  · rw [if_neg h1, if_neg (by simp), if_neg (show ¬ a ≥ 97 by omega), if_neg (show ¬ (65 ≤ a ∧ a ≤ 90) by omega), if_neg (show ¬ (97 ≤ a ∧ a ≤ 122) by omega)]

section
variable (a b : Int)
theorem s3 (k : Nat) (ha : -9223372036854775808 ≤ a ∧ a ≤ 9223372036854775807) (c : Bool) (hc : c = decide (1792 ≤ a ∧ a ≤ 1810 ∧ 1824 ≤ b ∧ b ≤ 1844)) : spec_l05Pair.j3 (k + 1) a b c = some (c4 a b) := by
  simp only [spec_l05Pair.j3]
  unfold c4 c5
  by_cases h : 1792 ≤ a ∧ a ≤ 1810 ∧ 1824 ≤ b ∧ b ≤ 1844
  · rw [if_pos h, if_pos (by rw [hc]; simpa using h)]
    congr 1; unfold wrap64; omega
  · rw [if_neg h, if_neg (by rw [hc]; simpa using h)]
    by_cases h1 : a ≥ 12288
    · by_cases h2 : a ≤ 23459
      · have e : Int.tmod (wrap64 (a - 12288)) 28 = (a - 12288) % 28 := by rw [w64 (by omega) (by omega)]; exact Int.tmod_eq_emod_of_nonneg (by omega)
        rw [if_pos h1, if_pos h2, e]
        by_cases h3 : (a - 12288) % 28 = 0
        · rw [if_pos h3]
          by_cases h4 : b ≥ 1857
          · by_cases h5 : b ≤ 1883
            · rw [if_pos h4, if_pos h5, if_pos (by omega)]
              congr 1; unfold wrap64; omega
            · rw [if_pos h4, if_neg h5, if_neg (by omega)]
          · rw [if_neg h4, if_neg (by omega)]
        · rw [if_neg h3, if_neg (by omega)]
      · rw [if_pos h1, if_neg h2, if_neg (by omega)]
    · rw [if_neg h1, if_neg (by omega)]
theorem s2 (k : Nat) (ha : -9223372036854775808 ≤ a ∧ a ≤ 9223372036854775807) (c : Bool) (hc : c = decide (8704 ≤ a ∧ a ≤ 9119 ∧ b = 4096)) : spec_l05Pair.j2 (k + 2) a b c = some (c3 a b) := by
  simp only [spec_l05Pair.j2]
  unfold c3
  by_cases h : 8704 ≤ a ∧ a ≤ 9119 ∧ b = 4096
  · rw [if_pos h, if_pos (by rw [hc]; simpa using h)]
    congr 1; unfold wrap64; omega
  · rw [if_neg h, if_neg (by rw [hc]; simpa using h)]
    by_cases h1 : a ≥ 1792
    · by_cases h2 : a ≤ 1810
      · by_cases h3 : b ≥ 1824
        · rw [if_pos h1, if_pos h2, if_pos h3]
          exact s3 a b k ha _ (by first | exact decide_eq_decide.2 (by omega) | exact (decide_eq_false (by omega)).symm)
        · rw [if_pos h1, if_pos h2, if_neg h3]
          exact s3 a b k ha _ (by first | exact decide_eq_decide.2 (by omega) | exact (decide_eq_false (by omega)).symm)
      · rw [if_pos h1, if_neg h2]
        exact s3 a b k ha _ (by first | exact decide_eq_decide.2 (by omega) | exact (decide_eq_false (by omega)).symm)
    · rw [if_neg h1]
      exact s3 a b k ha _ (by first | exact decide_eq_decide.2 (by omega) | exact (decide_eq_false (by omega)).symm)
theorem s1 (k : Nat) (ha : -9223372036854775808 ≤ a ∧ a ≤ 9223372036854775807) (c : Bool) (i : Int) (hi : -1 ≤ i ∧ i ≤ 51) (hc : c = decide (0 ≤ i ∧ 4112 ≤ b ∧ b ≤ 4119)) : spec_l05Pair.j1 (k + 3) a b i c = some (c2 a b i) := by
  simp only [spec_l05Pair.j1]
  unfold c2
  by_cases h : 0 ≤ i ∧ 4112 ≤ b ∧ b ≤ 4119
  · rw [if_pos h, if_pos (by rw [hc]; simpa using h)]
    congr 1; unfold wrap64; omega
  · rw [if_neg h, if_neg (by rw [hc]; simpa using h)]
    by_cases h1 : a ≥ 8704
    · by_cases h2 : a < 9120
      · rw [if_pos h1, if_pos h2]
        exact s2 a b k ha _ (by first | exact decide_eq_decide.2 (by omega) | exact (decide_eq_false (by omega)).symm)
      · rw [if_pos h1, if_neg h2]
        exact s2 a b k ha _ (by first | exact decide_eq_decide.2 (by omega) | exact (decide_eq_false (by omega)).symm)
    · rw [if_neg h1]
      exact s2 a b k ha _ (by first | exact decide_eq_decide.2 (by omega) | exact (decide_eq_false (by omega)).symm)
theorem s0 (k : Nat) (ha : -9223372036854775808 ≤ a ∧ a ≤ 9223372036854775807) (c : Bool) (i : Int) (hi : -1 ≤ i ∧ i ≤ 51) (hc : c = decide (0 ≤ i ∧ 4096 ≤ b ∧ b ≤ 4103)) : spec_l05Pair.j0 (k + 4) a b i c = some (c1 a b i) := by
  simp only [spec_l05Pair.j0]
  unfold c1
  by_cases h : 0 ≤ i ∧ 4096 ≤ b ∧ b ≤ 4103
  · rw [if_pos h, if_pos (by rw [hc]; simpa using h)]
    congr 1; unfold wrap64; omega
  · rw [if_neg h, if_neg (by rw [hc]; simpa using h)]
    by_cases h1 : i ≥ 0
    · by_cases h2 : b ≥ 4112
      · rw [if_pos h1, if_pos h2]
        exact s1 a b k ha _ i hi (by first | exact decide_eq_decide.2 (by omega) | exact (decide_eq_false (by omega)).symm)
      · rw [if_pos h1, if_neg h2]
        exact s1 a b k ha _ i hi (by first | exact decide_eq_decide.2 (by omega) | exact (decide_eq_false (by omega)).symm)
    · rw [if_neg h1]
      exact s1 a b k ha _ i hi (by first | exact decide_eq_decide.2 (by omega) | exact (decide_eq_false (by omega)).symm)
theorem spec_eq (k : Nat) (ha : -9223372036854775808 ≤ a ∧ a ≤ 9223372036854775807) : spec_Compose.f (k + 4) a b = some (c1 a b (letterAt a)) := by
  have hi := letterAt_range a
  unfold spec_Compose.f spec_l05Pair.f
  rw [spec_letter]
  simp only [Option.bind_some]
  by_cases h1 : letterAt a ≥ 0
  · by_cases h2 : b ≥ 4096
    · rw [if_pos h1, if_pos h2, s0 a b k ha _ _ hi (by first | exact decide_eq_decide.2 (by omega) | exact (decide_eq_false (by omega)).symm)]; rfl
    · rw [if_pos h1, if_neg h2, s0 a b k ha _ _ hi (by first | exact decide_eq_decide.2 (by omega) | exact (decide_eq_false (by omega)).symm)]; rfl
  · rw [if_neg h1, s0 a b k ha _ _ hi (by first | exact decide_eq_decide.2 (by omega) | exact (decide_eq_false (by omega)).symm)]; rfl

theorem in_eq (p x y : Int) : impl_in.f p x y = some (decide (x ≤ p ∧ p ≤ y)) := by
  unfold impl_in.f
  by_cases h : p ≥ x
  · rw [if_pos h]; congr 1; simp; omega
  · rw [if_neg h]; congr 1; simp; omega
theorem i5 (k : Nat) (ha : -9223372036854775808 ≤ a ∧ a ≤ 9223372036854775807) (c : Bool) (hc : c = decide (1792 ≤ a ∧ a ≤ 1810 ∧ 1824 ≤ b ∧ b ≤ 1844)) : impl_Compose.j5 (k + 1) a b c = some (c4 a b) := by
  simp only [impl_Compose.j5]
  unfold c4 c5
  by_cases h : 1792 ≤ a ∧ a ≤ 1810 ∧ 1824 ≤ b ∧ b ≤ 1844
  · rw [if_pos h, if_pos (by rw [hc]; simpa using h)]
    congr 1; unfold wrap64; omega
  · rw [if_neg h, if_neg (by rw [hc]; simpa using h)]
    unfold impl_isOpen.f impl_isSyllable.f
    rw [in_eq, in_eq]
    simp only [Option.bind_some, decide_eq_true_eq]
    by_cases h1 : 12288 ≤ a ∧ a ≤ 23459
    · have e : Int.tmod (wrap64 (a - 12288)) 28 = (a - 12288) % 28 := by rw [w64 (by omega) (by omega)]; exact Int.tmod_eq_emod_of_nonneg (by omega)
      rw [if_pos h1, e]
      simp only [Option.bind_some, beq_iff_eq]
      by_cases h3 : (a - 12288) % 28 = 0
      · rw [if_pos h3]
        by_cases h4 : 1857 ≤ b ∧ b ≤ 1883
        · rw [if_pos h4, if_pos (by omega)]
          congr 1; unfold wrap64; omega
        · rw [if_neg h4, if_neg (by omega)]
      · rw [if_neg h3, if_neg (by omega)]
    · rw [if_neg h1, if_neg (show ¬ (12288 ≤ a ∧ a ≤ 23459 ∧ (a - 12288) % 28 = 0 ∧ 1857 ≤ b ∧ b ≤ 1883) by omega)]; rfl
theorem i4 (k : Nat) (ha : -9223372036854775808 ≤ a ∧ a ≤ 9223372036854775807) (c : Bool) (hc : c = decide (8704 ≤ a ∧ a ≤ 9119 ∧ b = 4096)) : impl_Compose.j4 (k + 2) a b c = some (c3 a b) := by
  simp only [impl_Compose.j4, in_eq, Option.bind_some, decide_eq_true_eq]
  unfold c3
  by_cases h : 8704 ≤ a ∧ a ≤ 9119 ∧ b = 4096
  · rw [if_pos h, if_pos (by rw [hc]; simpa using h)]
    congr 1; unfold wrap64; omega
  · rw [if_neg h, if_neg (by rw [hc]; simpa using h)]
    by_cases h1 : 1792 ≤ a ∧ a ≤ 1810
    · rw [if_pos h1]
      exact i5 a b k ha _ (by first | exact decide_eq_decide.2 (by omega) | exact (decide_eq_false (by omega)).symm)
    · rw [if_neg h1]
      exact i5 a b k ha _ (by first | exact decide_eq_decide.2 (by omega) | exact (decide_eq_false (by omega)).symm)
theorem i3 (k : Nat) (ha : -9223372036854775808 ≤ a ∧ a ≤ 9223372036854775807) (c : Bool) (i : Int) (hi : -1 ≤ i ∧ i ≤ 51) (hc : c = decide (0 ≤ i ∧ 4112 ≤ b ∧ b ≤ 4119)) : impl_Compose.j3 (k + 3) a b i c = some (c2 a b i) := by
  simp only [impl_Compose.j3, in_eq, Option.bind_some, decide_eq_true_eq]
  unfold c2
  by_cases h : 0 ≤ i ∧ 4112 ≤ b ∧ b ≤ 4119
  · rw [if_pos h, if_pos (by rw [hc]; simpa using h)]
    congr 1; unfold wrap64; omega
  · rw [if_neg h, if_neg (by rw [hc]; simpa using h)]
    by_cases h1 : 8704 ≤ a ∧ a ≤ 9119
    · rw [if_pos h1]
      exact i4 a b k ha _ (by first | exact decide_eq_decide.2 (by omega) | exact (decide_eq_false (by omega)).symm)
    · rw [if_neg h1]
      exact i4 a b k ha _ (by first | exact decide_eq_decide.2 (by omega) | exact (decide_eq_false (by omega)).symm)
theorem i2 (k : Nat) (ha : -9223372036854775808 ≤ a ∧ a ≤ 9223372036854775807) (c : Bool) (i : Int) (hi : -1 ≤ i ∧ i ≤ 51) (hc : c = decide (0 ≤ i ∧ 4096 ≤ b ∧ b ≤ 4103)) : impl_Compose.j2 (k + 4) a b i c = some (c1 a b i) := by
  simp only [impl_Compose.j2, in_eq, Option.bind_some]
  unfold c1
  by_cases h : 0 ≤ i ∧ 4096 ≤ b ∧ b ≤ 4103
  · rw [if_pos h, if_pos (by rw [hc]; simpa using h)]
    congr 1; unfold wrap64; omega
  · rw [if_neg h, if_neg (by rw [hc]; simpa using h)]
    by_cases h1 : i ≥ 0
    · rw [if_pos h1]
      exact i3 a b k ha _ i hi (by first | exact decide_eq_decide.2 (by omega) | exact (decide_eq_false (by omega)).symm)
    · rw [if_neg h1]
      exact i3 a b k ha _ i hi (by first | exact decide_eq_decide.2 (by omega) | exact (decide_eq_false (by omega)).symm)
theorem i1 (k : Nat) (ha : -9223372036854775808 ≤ a ∧ a ≤ 9223372036854775807) (i : Int) (hi : -1 ≤ i ∧ i ≤ 51) : impl_Compose.j1 (k + 5) a b i = some (c1 a b i) := by
  simp only [impl_Compose.j1, in_eq, Option.bind_some]
  by_cases h1 : i ≥ 0
  · rw [if_pos h1]
    exact i2 a b k ha _ i hi (by first | exact decide_eq_decide.2 (by omega) | exact (decide_eq_false (by omega)).symm)
  · rw [if_neg h1]
    exact i2 a b k ha _ i hi (by first | exact decide_eq_decide.2 (by omega) | exact (decide_eq_false (by omega)).symm)
theorem impl_eq (k : Nat) (ha : -9223372036854775808 ≤ a ∧ a ≤ 9223372036854775807) : impl_Compose.f (k + 6) a b = some (c1 a b (letterAt a)) := by
  unfold impl_Compose.f
  have hi := letterAt_range a
  simp only [impl_Compose.j0, in_eq, Option.bind_some, decide_eq_true_eq]
  by_cases h1 : 65 ≤ a ∧ a ≤ 90
  · rw [if_pos h1, if_neg (by omega), i1 a b k ha _ (by rw [w64 (by omega) (by omega)]; omega)]
    unfold letterAt; rw [if_pos h1, w64 (by omega) (by omega)]
  · rw [if_neg h1]
    by_cases h2 : 97 ≤ a ∧ a ≤ 122
    · have e : wrap64 (wrap64 (a - 97) + 26) = a - 71 := by rw [w64 (x := a - 97) (by omega) (by omega), w64 (by omega) (by omega)]; omega
      rw [if_pos h2, e, i1 a b k ha _ (by omega)]
      unfold letterAt; rw [if_neg h1, if_pos h2]
    · rw [if_neg h2, i1 a b k ha _ (by omega)]
      unfold letterAt; rw [if_neg h1, if_neg h2]
end

theorem FnExactCompose : laws_FnExactCompose.Pure := by
  intro a b ha _
  refine ⟨6, ?_⟩
  unfold laws_FnExactCompose.f
  rw [show (6 : Nat) = 2 + 4 from rfl, spec_eq a b 2 (bd64 ha), show (2 + 4 : Nat) = 0 + 6 from rfl, impl_eq a b 0 (bd64 ha)]
  simp

end Go.Proofs.Ytpibhoaegbeonaa.Pure
